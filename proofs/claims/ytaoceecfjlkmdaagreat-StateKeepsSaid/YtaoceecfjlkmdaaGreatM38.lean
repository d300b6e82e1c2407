/- Lemmas of the walks, merged and pressed by press.py. Conditions: those of each theorem. -/
import Derived.Test.YtaoceecfjlkmdaaGreatM37
import Derived.Test.YtaoceecfjlkmdaaGreatM35
set_option maxRecDepth 100000
set_option maxHeartbeats 64000000
set_option linter.all false
namespace Go.Proofs.YtaoceecfjlkmdaaGreat
open Tryz
section
open Go.RowKit
theorem zlB (l:List En) (v s now size n:Nat):zbw l v s now size (n+1)=zbw l v s now size n++if zeN l v s size n≠atL l v n now then [⟨n,zeN l v s size n,none⟩] else []:=by
 unfold zbw;rw [List.range_succ,List.filter_append,List.map_append]
 by_cases h:zeN l v s size n=atL l v n now <;> simp [h]
theorem znc (l:List En) (v s now size n:Nat):(zbw l v s now size n).length<=n:=by
 unfold zbw;rw [List.length_map];exact zs (List.length_filter_le _ _) (by rw [List.length_range];exact zl)
theorem zdf {w W:World} {b:Addr} {u:Value} (h:w.cell? b=some u) (hh:W.heap[b.block]? =w.heap[b.block]?):W.cell? b=some u:=by
 unfold World.cell? at h ⊢;rw [hh];exact h
theorem ziO (c:Ct) (l:List En) (s:Nat) (o:PO) {zeo zno:Nat} (hz:c.sizeAt o.v o.pt.toNat (s - 1)=(zeo,zno)):
 (zeo≠0->zcW c l s o=(zeo,Chg.nil c s))/\(zeo=0->∃y,c.find o.v=some y/\zcW c l s o=(rzE c o.v s zno,{Chg.nil c s with c:=rzC c o.v s zno,vol:=o.v.toNat,puts:=zbw l o.v.toNat o.pt.toNat (s - 1) zno (max zno (zas y.sizes))})):=by
 unfold zcW;simp only [hz];refine ⟨fun h=> by rw [if_pos h],fun h=> ?_⟩
 rw [if_neg ud];unfold rzE rzC
 cases hf:c.find o.v with
 | none=> unfold Ct.sizeAt at hz;rw [hf] at hz;cases hz;cases h
 | some y=> exact ⟨y,rfl,rfl⟩
theorem znd {w0 w:World} {p:Nat} {h:Ch} {a:StA} {cf:Cfg} {st:PS} {nb k:Nat} {Q:Nat->Prop} {x sq:Nat} {o:PO} {da:Option Addr} {dn dc:Nat} {ma:Option Addr} {mn mc:Nat} (H:EvC w0 w p h a cf st nb k Q x h (Chg.nil st.c sq) (.slice none 0 0) []) (AE:sq=st.seq+1) (hO:OpM w o da dn ma mn) (hv:1<=o.v/\o.v<=65535):
 Calls Tryz.prog 60 #[.pointer (some ⟨p,0,none⟩), .pointer (some ⟨x,0,none⟩), .agg (opA o da dn dc ma mn mc)] w (EvE w0 Q x (zcW st.c st.l sq o)):=by
 have DX:=zh H.st.inv.ct;have Ik:((o.v.toNat:Nat):Int)=o.v:=ud;have Ew:=hO.pt;have Ly:((o.pt.toNat:Nat):Int)=o.pt:=ud;have MV:sq - 1=st.seq:=ud;obtain ⟨⟨zeo,zno⟩,hz⟩:∃r,st.c.sizeAt o.v o.pt.toNat st.seq=r:=⟨_,rfl⟩;have Br:=zh (ziO st.c st.l sq o (zeo:=zeo) (zno:=zno) (by rw [MV];exact hz))
 have HV:=zh (zn hv Ew);have OE:=zh (fun (e:zeo=0)=> Ct.sizeAt_fit H.st.inv.ct (v:=o.v) (t:=o.pt.toNat) (last:=st.seq) (n:=zno) (by rw [hz,e]))
 obtain ⟨ec,CG⟩:∃ec,rzE st.c o.v sq zno=ec:=⟨_,rfl⟩;obtain ⟨cn,DR⟩:∃cn,rzC st.c o.v sq zno=cn:=⟨_,rfl⟩;rw [CG,DR,MV] at Br;obtain ⟨w1,Ab,hX,H1,Cm,HX,AU⟩:=evS H AE hO dc mc;have Al:=zh (fun (W:World) (hW:Below w1.heap.size w1 W)=> (H1.out.stw.below hW).reads);have CD:=zh (fun (W:World) (hW:Below w1.heap.size w1 W)=> (H1.out.chg.below hW).reads);obtain ⟨s0,s1,s2,s3,s4,s5,s6,s7,s8,s9,s10,s11,s12,s13,s14,s15,s16,s17,s18,s19,-⟩:=H1.out.stw.reads;obtain ⟨e0,e1,e2,e3,e4,e5,e6,e7,e8,e9,e10,e11,e12,e13,e14,-⟩:=H1.out.chg.reads;obtain ⟨o0,o1,o2,o3,o4,o5,o6,o7⟩:=rd8 (w:=w1) hX;clear H AE hO hX;obtain ⟨Qx,BV⟩:∃Qx:Nat->Prop,Qx=fun j=> Q j\/j=x\/(Value.slice none 0 0).ownBlock=some j:=⟨_,rfl⟩;have Bi:zaV Qx w1 h st.c:=by rw [BV];exact H1.out.chg.cat
 have Oy:=zh (fun j (hj:Qx j)=> show j < w1.heap.size from by
  rw [BV] at hj;rcases hj with hj | hj | hj
  ·exact H1.out.stw.qlt j hj
  ·rw [hj];exact H1.out.chg.xlt
  cases hj)
 have Hh:=zh BV;clear BV;have J3:=zh (fun (W:World) (hW:Below w1.heap.size w1 W)=> zbz (H1.out.stw.below hW).cat DX.out o.v o.pt.toNat st.seq);have J7:=zh (fun (W:World) (hW:Below w1.heap.size w1 W)=> zcI (H1.out.stw.below hW).cat DX.out o.v);rw [hz] at J3;have IW:=zh (fun (h0:zeo=0) (W:World) (hW:Below w1.heap.size w1 W) (R:Nat->Prop) (hR:∀j,R j->Qx j\/w1.heap.size<=j) (B0:∀j,R j->j < W.heap.size)=> zgt (Bi.outs (zD.of_below hW) hR) DX.out B0 o.v zno sq (OE.out h0));rw [CG,DR] at IW;unfold Ch.val Ch.cells at J3 IW J7;simp only [Ly] at J3 IW J7;have Dx:=zh (fun (W:World) (hW:Below w1.heap.size w1 W)=> show W.cell? ⟨p,0,none⟩=some (.int .i64 (st.c.nv:Int))/\W.cell? ⟨p,1,none⟩=some (.int .i64 (st.c.ng:Int))/\W.cell? ⟨p,2,none⟩=some (.int .i64 (st.c.nb:Int))/\W.cell? ⟨p,3,none⟩=some (.int .u64 (st.c.fl:Int))/\W.cell? ⟨p,4,none⟩=some (.slice h.va st.c.vols.length h.vc)/\W.cell? ⟨p,5,none⟩=some (.slice h.ga st.c.groups.length h.gc)/\W.cell? ⟨p,6,none⟩=some (.slice h.ba st.c.books.length h.bc)/\W.cell? ⟨p,7,none⟩=some (.slice h.ka st.c.kept.length h.kc)/\W.cell? ⟨p,8,none⟩=some (.slice h.ta st.c.times.length h.tc)/\W.cell? ⟨p,18,none⟩=some (.int .u64 (st.seq:Int))/\W.cell? ⟨w.heap.size,1,none⟩=some (.int .i64 o.v)/\W.cell? ⟨w.heap.size,5,none⟩=some (.int .u64 o.pt) from ⟨(Al.out W (hW)).1,(Al.out W (hW)).2.1,(Al.out W (hW)).2.2.1,(Al.out W (hW)).2.2.2.1,(Al.out W (hW)).2.2.2.2.1,(Al.out W (hW)).2.2.2.2.2.1,(Al.out W (hW)).2.2.2.2.2.2.1,(Al.out W (hW)).2.2.2.2.2.2.2.1,(Al.out W (hW)).2.2.2.2.2.2.2.2.1,(Al.out W (hW)).2.2.2.2.2.2.2.2.2.2.2.2.2.2.2.2.2.2.1,cell_of_row W _ 1 _ _ _ (AU.out W (hW)),cell_of_row W _ 5 _ _ _ (AU.out W (hW))⟩);clear Bi hz CG DR hv Ew s9 s10 s11 s12 s13 s14 s15 s16 s17 s19 e0 e1 e2 e3 e4 e5 e6 e7 e8 e9 e10 e11 e12 e13 e14;unfold opA at *;go_in;go_upto_region 1 with fail;rw [<- Ab];clear Ab;have Cu:Below w1.heap.size w1 w1.drew:=zr.drew;go_wp2_with fail
 go_region_held3 (fun W=> W.cell? ⟨p,0,none⟩=some (.int .i64 (st.c.nv:Int))/\W.cell? ⟨p,1,none⟩=some (.int .i64 (st.c.ng:Int))/\W.cell? ⟨p,2,none⟩=some (.int .i64 (st.c.nb:Int))/\W.cell? ⟨p,3,none⟩=some (.int .u64 (st.c.fl:Int))/\W.cell? ⟨p,4,none⟩=some (.slice h.va st.c.vols.length h.vc)/\W.cell? ⟨p,5,none⟩=some (.slice h.ga st.c.groups.length h.gc)/\W.cell? ⟨p,6,none⟩=some (.slice h.ba st.c.books.length h.bc)/\W.cell? ⟨p,7,none⟩=some (.slice h.ka st.c.kept.length h.kc)/\W.cell? ⟨p,8,none⟩=some (.slice h.ta st.c.times.length h.tc)/\W.cell? ⟨p,18,none⟩=some (.int .u64 (st.seq:Int))/\W.cell? ⟨w.heap.size,1,none⟩=some (.int .i64 o.v)/\W.cell? ⟨w.heap.size,5,none⟩=some (.int .u64 o.pt)) (first | with_reducible exact Bg | go_keep)
  ((go_at_call 19;((with_reducible refine (J3.out _ Cu).mono ?_);rintro r w3 ⟨rfl,Bz⟩;have Bz:Below w1.heap.size w1 w3:=Cu.trans Bz;have Bg:=Dx.out w3 Bz)))
 clear Bg Cu;clear o0 o1 o2 o3 o4 o5 o6 o7 Dx s0 s1 s2 s3 s4 s5 s6 s7 s8 s18;have Ao:=Bz;clear Bz;have AI:=zh Ao
 by_cases Ju:zeo=0
 ·obtain ⟨y,hy,CH⟩:=Br.out.2 Ju;have Mv:zo6 (st.c.find o.v)=0:=by rw [hy];rfl
  have AR:st.c.size o.v=zas y.sizes:=by unfold Ct.size;rw [hy]
  have MU:=zbR (DX.out.vols y (za0 hy).1).sizes;obtain ⟨now,KN⟩:∃now,zas y.sizes=now:=⟨_,rfl⟩;rw [KN] at AR MU CH;rw [AR,Mv] at J7;have LI:=zh CH;have vh:=zh MU;have J8:=zh (OE.out Ju);clear hy Mv AR CH KN MU Br;have Az:=zh (fun (W:World) (hW:Below w3.heap.size w3 W)=> show W.cell? ⟨p,0,none⟩=some (.int .i64 (st.c.nv:Int))/\W.cell? ⟨p,1,none⟩=some (.int .i64 (st.c.ng:Int))/\W.cell? ⟨p,2,none⟩=some (.int .i64 (st.c.nb:Int))/\W.cell? ⟨p,3,none⟩=some (.int .u64 (st.c.fl:Int))/\W.cell? ⟨p,4,none⟩=some (.slice h.va st.c.vols.length h.vc)/\W.cell? ⟨p,5,none⟩=some (.slice h.ga st.c.groups.length h.gc)/\W.cell? ⟨p,6,none⟩=some (.slice h.ba st.c.books.length h.bc)/\W.cell? ⟨p,7,none⟩=some (.slice h.ka st.c.kept.length h.kc)/\W.cell? ⟨p,8,none⟩=some (.slice h.ta st.c.times.length h.tc)/\W.cell? ⟨w.heap.size,1,none⟩=some (.int .i64 o.v) from ⟨(Al.out W (Ao.trans (hW.mono Ao.size))).1,(Al.out W (Ao.trans (hW.mono Ao.size))).2.1,(Al.out W (Ao.trans (hW.mono Ao.size))).2.2.1,(Al.out W (Ao.trans (hW.mono Ao.size))).2.2.2.1,(Al.out W (Ao.trans (hW.mono Ao.size))).2.2.2.2.1,(Al.out W (Ao.trans (hW.mono Ao.size))).2.2.2.2.2.1,(Al.out W (Ao.trans (hW.mono Ao.size))).2.2.2.2.2.2.1,(Al.out W (Ao.trans (hW.mono Ao.size))).2.2.2.2.2.2.2.1,(Al.out W (Ao.trans (hW.mono Ao.size))).2.2.2.2.2.2.2.2.1,cell_of_row W _ 1 _ _ _ (AU.out W (Ao.trans (hW.mono Ao.size)))⟩);obtain ⟨s0,s1,s2,s3,s4,s5,s6,s7,s8,-,-,-,-,-,-,-,-,-,-,-,-⟩:=Al.out w3 Ao;have o1:=cell_of_row w3 _ 1 _ _ _ (AU.out w3 Ao);have Cu:Below w3.heap.size w3 w3.drew:=zr.drew;go_wp2_with fail
  go_region_held3 (fun W=> W.cell? ⟨p,0,none⟩=some (.int .i64 (st.c.nv:Int))/\W.cell? ⟨p,1,none⟩=some (.int .i64 (st.c.ng:Int))/\W.cell? ⟨p,2,none⟩=some (.int .i64 (st.c.nb:Int))/\W.cell? ⟨p,3,none⟩=some (.int .u64 (st.c.fl:Int))/\W.cell? ⟨p,4,none⟩=some (.slice h.va st.c.vols.length h.vc)/\W.cell? ⟨p,5,none⟩=some (.slice h.ga st.c.groups.length h.gc)/\W.cell? ⟨p,6,none⟩=some (.slice h.ba st.c.books.length h.bc)/\W.cell? ⟨p,7,none⟩=some (.slice h.ka st.c.kept.length h.kc)/\W.cell? ⟨p,8,none⟩=some (.slice h.ta st.c.times.length h.tc)/\W.cell? ⟨w.heap.size,1,none⟩=some (.int .i64 o.v)) (first | with_reducible exact Bg | go_keep)
   ((go_at_call 46;((with_reducible refine (J7.out _ (AI.out.drew)).mono ?_);rintro r w4 ⟨rfl,Bz⟩;have Bz:Below w3.heap.size w3 w4:=Cu.trans Bz;have Bg:=Az.out w4 Bz)))
  clear Bg Cu;clear s0 s1 s2 s3 s4 s5 s6 s7 s8 o1 Az;have Aw:=Ao.trans (Bz.mono Ao.size);clear Bz Ao;have Cz:=zh Aw;have HD:=zh (fun (W:World) (hW:Below w4.heap.size w4 W) (R:Nat->Prop) (hR:∀j,R j->Qx j\/w4.heap.size<=j) (B0:∀j,R j->j < W.heap.size)=> IW.out Ju W (Cz.out.trans (hW.mono Cz.out.size)) R (fun j hj=> (hR j hj).imp (fun e=> e) fun e=> zs Cz.out.size e) B0);subst Ju;have Jw:=zh (fun j (hj:Qx j)=> zt (Oy.out j hj) Cz.out.size);have HS:=zh (fun (W:World) (hW:Below w4.heap.size w4 W)=> show W.cell? ⟨p,0,none⟩=some (.int .i64 (st.c.nv:Int))/\W.cell? ⟨p,1,none⟩=some (.int .i64 (st.c.ng:Int))/\W.cell? ⟨p,2,none⟩=some (.int .i64 (st.c.nb:Int))/\W.cell? ⟨p,3,none⟩=some (.int .u64 (st.c.fl:Int))/\W.cell? ⟨p,4,none⟩=some (.slice h.va st.c.vols.length h.vc)/\W.cell? ⟨p,5,none⟩=some (.slice h.ga st.c.groups.length h.gc)/\W.cell? ⟨p,6,none⟩=some (.slice h.ba st.c.books.length h.bc)/\W.cell? ⟨p,7,none⟩=some (.slice h.ka st.c.kept.length h.kc)/\W.cell? ⟨p,8,none⟩=some (.slice h.ta st.c.times.length h.tc)/\W.cell? ⟨w.heap.size,1,none⟩=some (.int .i64 o.v)/\W.cell? ⟨x,14,none⟩=some (.int .u64 (sq:Int)) from ⟨(Al.out W (Aw.trans (hW.mono Aw.size))).1,(Al.out W (Aw.trans (hW.mono Aw.size))).2.1,(Al.out W (Aw.trans (hW.mono Aw.size))).2.2.1,(Al.out W (Aw.trans (hW.mono Aw.size))).2.2.2.1,(Al.out W (Aw.trans (hW.mono Aw.size))).2.2.2.2.1,(Al.out W (Aw.trans (hW.mono Aw.size))).2.2.2.2.2.1,(Al.out W (Aw.trans (hW.mono Aw.size))).2.2.2.2.2.2.1,(Al.out W (Aw.trans (hW.mono Aw.size))).2.2.2.2.2.2.2.1,(Al.out W (Aw.trans (hW.mono Aw.size))).2.2.2.2.2.2.2.2.1,cell_of_row W _ 1 _ _ _ (AU.out W (Aw.trans (hW.mono Aw.size))),(CD.out W (Aw.trans (hW.mono Aw.size))).2.2.2.2.2.2.2.2.2.2.2.2.2.2.1⟩);obtain ⟨s0,s1,s2,s3,s4,s5,s6,s7,s8,-,-,-,-,-,-,-,-,-,-,-,-⟩:=Al.out w4 Aw;obtain ⟨-,-,-,-,-,-,-,-,-,-,-,-,-,-,e14,-⟩:=CD.out w4 Aw;have o1:=cell_of_row w4 _ 1 _ _ _ (AU.out w4 Aw);clear IW Aw J3 J7 OE;go_upto_region 5 with fail
  go_cut [11,12] from 45 to 59 (fun u11 u12 wx=> ∃(cb:Nat) (h':Ch) (c':Ct),u11= .pointer (some ⟨cb,0,none⟩)/\u12= .int .i64 (ec:Int)/\Below w4.heap.size w4 wx/\w4.heap.size<=cb/\wx.heap[cb]? =some (.cells #[.int .i64 (c'.nv:Int), .int .i64 (c'.ng:Int), .int .i64 (c'.nb:Int), .int .u64 (c'.fl:Int), .slice h'.va c'.vols.length h'.vc, .slice h'.ga c'.groups.length h'.gc, .slice h'.ba c'.books.length h'.bc, .slice h'.ka c'.kept.length h'.kc, .slice h'.ta c'.times.length h'.tc] 54 (0,0))/\zaV Qx wx h' c'/\(c'=cn/\ec=0\/c'=ct0/\ec≠0))
  case first=>
   have Cs:Below w4.heap.size w4 w4.drew:=zr.drew;have Av:=zn trivial (HS.out _ Cs);refine zy ue [0,1,2,4,6,7,8,9,12,13,14,16,17] (fun _=> True) (fun W=> W.cell? ⟨p,0,none⟩=some (.int .i64 (st.c.nv:Int))/\W.cell? ⟨p,1,none⟩=some (.int .i64 (st.c.ng:Int))/\W.cell? ⟨p,2,none⟩=some (.int .i64 (st.c.nb:Int))/\W.cell? ⟨p,3,none⟩=some (.int .u64 (st.c.fl:Int))/\W.cell? ⟨p,4,none⟩=some (.slice h.va st.c.vols.length h.vc)/\W.cell? ⟨p,5,none⟩=some (.slice h.ga st.c.groups.length h.gc)/\W.cell? ⟨p,6,none⟩=some (.slice h.ba st.c.books.length h.bc)/\W.cell? ⟨p,7,none⟩=some (.slice h.ka st.c.kept.length h.kc)/\W.cell? ⟨p,8,none⟩=some (.slice h.ta st.c.times.length h.tc)/\W.cell? ⟨w.heap.size,1,none⟩=some (.int .i64 o.v)/\W.cell? ⟨x,14,none⟩=some (.int .u64 (sq:Int))) ?_;refine tL 0 (d:=some 46) trivial ?_;refine tL 1 (d:=some 47) trivial ?_;refine tL 2 (d:=some 48) trivial ?_;refine tL 4 (d:=some 50) trivial ?_;refine tL 6 (d:=some 52) trivial ?_;refine tL 7 (d:=some 53) trivial ?_;refine tL 8 (d:=some 54) trivial ?_;refine tL 9 (d:=some 55) trivial ?_;refine tS 3 (d:=some 49) Av ?_;refine tS 5 (d:=some 51) Av ?_;refine tS 10 (d:=some 56) Av ?_;refine zbq (i:=11) (i':=15) ue rfl rfl (fun K' hK=> ?_) (fun K' hK=> ?_)
   ·refine zA (o:=⟨some 57,_,_,_,_,_⟩) ue 91 Tryz.func91 ue rfl _ _ rfl #[.agg #[.int .i64 (st.c.nv:Int), .int .i64 (st.c.ng:Int), .int .i64 (st.c.nb:Int), .int .u64 (st.c.fl:Int), .slice h.va st.c.vols.length h.vc, .slice h.ga st.c.groups.length h.gc, .slice h.ba st.c.books.length h.bc, .slice h.ka st.c.kept.length h.kc, .slice h.ta st.c.times.length h.tc], .int .i64 o.v, .int .i64 (zno:Int), .int .u64 (sq:Int)] ug (HD.out w4.drew Cs Qx (fun j hj=> .inl hj) (fun j hj=> Jw.out j hj)) ?_;rintro r wD ⟨v,rfl,Eo,As⟩;refine ⟨_,rfl, ?_⟩;have CN:=As;have DE:Below w4.heap.size w4 wD:=Cs.trans (As.mono Cs.size);have AZ:=zn trivial (HS.out _ DE);obtain ⟨h',c',rfl,BM,Ba⟩:=Eo.any;unfold Ch.cells;refine hK.out _ _ ⟨trivial,fun _=> AZ.2⟩ ?_
    try simp only [Act.put,zSs]
    clear hK K';refine tL 12 (d:=some 45) trivial ?_;refine tL 13 (d:=some 58) trivial ?_;refine tL 14 (d:=some 59) trivial ?_;refine zd (i:=15) ue rfl (fun K' hK=> ?_);go_simp;obtain ⟨wB,B2⟩:∃wX,wX=wD.alloc (.cells #[.int .i64 0, .int .i64 0, .int .i64 0, .int .u64 0, .slice none 0 0, .slice none 0 0, .slice none 0 0, .slice none 0 0, .slice none 0 0] 54):=⟨_,rfl⟩;rw [<- B2];have B4:Below w4.heap.size w4 wB:=by rw [B2];exact DE.alloc DE.size _
    have AZ:=zn trivial (HS.out _ B4);obtain ⟨cb,An⟩:∃cb,cb=wD.heap.size:=⟨_,rfl⟩;have Ay:wB.heap[cb]? =some (.cells #[.int .i64 0, .int .i64 0, .int .i64 0, .int .u64 0, .slice none 0 0, .slice none 0 0, .slice none 0 0, .slice none 0 0, .slice none 0 0] 54 (0,0)):=by rw [B2,An];exact heap_alloc_new wD _
    have AN:w4.heap.size<=cb:=by rw [An];exact DE.size
    rw [<- An];have Dl:=BM.outs (zD.of_below (show Below wD.heap.size wD wB from by rw [B2];exact zr.alloc zl _)) (Q':=fun j=> Qx j\/j=cb) fun j hj=> hj.imp (fun e=> e) fun e=> by rw [e,An];exact zl
    refine hK.out _ _ ⟨trivial,fun _=> AZ.2⟩ ?_
    try simp only [Act.put,zSs]
    clear hK K' B2 An;obtain ⟨z0,z1,z2,z3,z4,z5,z6,z7,z8,zf⟩:=zJ Ay;have f0:=zf 0;have f1:=zf 1;have f2:=zf 2;have f3:=zf 3;have f4:=zf 4;have f5:=zf 5;have f6:=zf 6;have f7:=zf 7;have f8:=zf 8;refine zd (i:=16) ue rfl (fun K' hK=> ?_);go_simp;refine hK.out _ _ ⟨trivial,fun h=> absurd h uf⟩ ?_
    try simp only [Act.put,zSs]
    clear hK K' AZ;have Ad:=zp4 Ay h' c';have BL:=zp3 (B:=cb) (zD.refl _ wB) rfl h' c';have Au:=zp2 (show Below w4.heap.size w4 wB from B4) AN h' c';generalize World.setCell _ (⟨cb,8,none⟩:Addr) _=wC at *;clear z0 z1 z2 z3 z4 z5 z6 z7 z8 zf f0 f1 f2 f3 f4 f5 f6 f7 f8;refine tL 17 (d:=some 12) trivial ?_;refine zI ue ?_ _;go_wp2_with fail
    go_meet
    case rel=>
     exact ⟨cb,h',c',rfl,rfl,Au,AN,Ad,Dl.outs (Q':=Qx) (BL.more fun j hj=> .inr hj) fun j hj=> .inl (.inl hj),Ba⟩
   go_simp;obtain ⟨wA,BR⟩:∃wX,wX=(w4.alloc (.cells #[.int .i64 0, .int .i64 0, .int .i64 0, .int .u64 0, .slice none 0 0, .slice none 0 0, .slice none 0 0, .slice none 0 0, .slice none 0 0] 54)).drew:=⟨_,rfl⟩;rw [<- BR];have BI:Below w4.heap.size w4 wA:=by rw [BR];exact ((Below.refl w4.heap.size w4).alloc zl _).drew
   have AZ:=zn trivial (HS.out _ BI);obtain ⟨cb,An⟩:∃cb,cb=w4.heap.size:=⟨_,rfl⟩;have Ay:wA.heap[cb]? =some (.cells #[.int .i64 0, .int .i64 0, .int .i64 0, .int .u64 0, .slice none 0 0, .slice none 0 0, .slice none 0 0, .slice none 0 0, .slice none 0 0] 54 (0,0)):=by rw [BR,An];exact heap_alloc_new w4 _
   have AN:w4.heap.size<=cb:=by rw [An];exact zl
   rw [<- An]
   skip
   refine hK.out _ _ ⟨trivial,fun _=> AZ.2⟩ ?_
   try simp only [Act.put,zSs]
   clear hK K' BR An;refine zd (i:=11) ue rfl (fun K' hK=> ?_);refine zA (o:=⟨some 57,_,_,_,_,_⟩) ue 91 Tryz.func91 ue rfl _ _ rfl #[.agg #[.int .i64 (st.c.nv:Int), .int .i64 (st.c.ng:Int), .int .i64 (st.c.nb:Int), .int .u64 (st.c.fl:Int), .slice h.va st.c.vols.length h.vc, .slice h.ga st.c.groups.length h.gc, .slice h.ba st.c.books.length h.bc, .slice h.ka st.c.kept.length h.kc, .slice h.ta st.c.times.length h.tc], .int .i64 o.v, .int .i64 (zno:Int), .int .u64 (sq:Int)] ug (HD.out wA BI (fun j=> Qx j\/j=cb) (fun j hj=> hj.imp (fun e=> e) fun e=> by rw [e];exact AN) (fun j hj=> hj.elim (fun h=> zt (Jw.out j h) BI.size) fun e=> by rw [e];exact (zg Ay).1)) ?_
   rintro r wB ⟨v,rfl,Eo,As⟩;refine ⟨_,rfl, ?_⟩;have CN:=As;have B4:Below w4.heap.size w4 wB:=BI.trans (As.mono BI.size);have AZ:=zn trivial (HS.out _ B4);obtain ⟨h',c',rfl,BM,Ba⟩:=Eo.any;unfold Ch.cells;refine hK.out _ _ ⟨trivial,fun _=> AZ.2⟩ ?_
   try simp only [Act.put,zSs]
   clear hK K'  BI;have Dl:=BM;have Ay:=(CN.block cb (zg Ay).1).trans Ay;obtain ⟨z0,z1,z2,z3,z4,z5,z6,z7,z8,zf⟩:=zJ Ay;have f0:=zf 0;have f1:=zf 1;have f2:=zf 2;have f3:=zf 3;have f4:=zf 4;have f5:=zf 5;have f6:=zf 6;have f7:=zf 7;have f8:=zf 8;refine tL 12 (d:=some 45) trivial ?_;refine tL 13 (d:=some 58) trivial ?_;refine tL 14 (d:=some 59) trivial ?_;refine zd (i:=16) ue rfl (fun K' hK=> ?_);go_simp;refine hK.out _ _ ⟨trivial,fun h=> absurd h uf⟩ ?_
   try simp only [Act.put,zSs]
   clear hK K' AZ;have Ad:=zp4 Ay h' c';have BL:=zp3 (B:=cb) (zD.refl _ wB) rfl h' c';have Au:=zp2 (show Below w4.heap.size w4 wB from B4) AN h' c';generalize World.setCell _ (⟨cb,8,none⟩:Addr) _=wC at *;clear z0 z1 z2 z3 z4 z5 z6 z7 z8 zf f0 f1 f2 f3 f4 f5 f6 f7 f8;refine tL 17 (d:=some 12) trivial ?_;refine zI ue ?_ _;go_wp2_with fail
   go_meet
   case rel=>
    exact ⟨cb,h',c',rfl,rfl,Au,AN,Ad,Dl.outs (Q':=Qx) (BL.more fun j hj=> .inr hj) fun j hj=> .inl (.inl hj),Ba⟩
  case rest=>
   obtain ⟨cb,h',c',rfl,rfl,As,AN,Ay,BM,Ba⟩:=hcut;rename World=> wc;obtain ⟨wd,N8⟩:∃wd,wd=wc.drew:=⟨_,rfl⟩;have Vf:Below wc.heap.size wc wd:=by rw [N8];exact zr.drew
   have Fn:Below w1.heap.size w1 wd:=(Cz.out.trans (As.mono Cz.out.size)).trans (Vf.mono (Cz.out.trans (As.mono Cz.out.size)).size);have Ko:Below w0.heap.size w0 wd:=H1.out.bel.trans (Fn.mono H1.out.bel.size);have FQ:=(Vf.block cb (zg Ay).1).trans Ay;have X2:=H1.out.chg.below Fn;obtain ⟨y0,y1,y2,y3,y4,y5,y6,y7,y8,-,y10,-,-,-,-,yf⟩:=X2.reads;have g0:=yf 0;have g1:=yf 1;have g2:=yf 2;have g3:=yf 3;have g4:=yf 4;have g5:=yf 5;have g6:=yf 6;have g7:=yf 7;have g8:=yf 8;have g10:=yf 10;have AS:=zh (zn X2 (zn Fn (zn Ko (zn (BM.below Vf) Ba))));clear X2 yf BM Ba Fn Ko As AN Ay Vf HD HS o1 s0 s1 s2 s3 s4 s5 s6 s7 s8 e14;have HZ:wd.cell? ⟨w.heap.size,1,none⟩=some (.int .i64 o.v):=cell_of_row _ _ 1 _ _ _ (AU.out _ AS.out.2.1);have Av:=zn HZ (show wd.cell? ⟨cb,0,none⟩=some (.int .i64 (c'.nv:Int))/\wd.cell? ⟨cb,1,none⟩=some (.int .i64 (c'.ng:Int))/\wd.cell? ⟨cb,2,none⟩=some (.int .i64 (c'.nb:Int))/\wd.cell? ⟨cb,3,none⟩=some (.int .u64 (c'.fl:Int))/\wd.cell? ⟨cb,4,none⟩=some (.slice h'.va c'.vols.length h'.vc)/\wd.cell? ⟨cb,5,none⟩=some (.slice h'.ga c'.groups.length h'.gc)/\wd.cell? ⟨cb,6,none⟩=some (.slice h'.ba c'.books.length h'.bc)/\wd.cell? ⟨cb,7,none⟩=some (.slice h'.ka c'.kept.length h'.kc)/\wd.cell? ⟨cb,8,none⟩=some (.slice h'.ta c'.times.length h'.tc) from ⟨cell_of_row wd _ 0 _ _ _ FQ,cell_of_row wd _ 1 _ _ _ FQ,cell_of_row wd _ 2 _ _ _ FQ,cell_of_row wd _ 3 _ _ _ FQ,cell_of_row wd _ 4 _ _ _ FQ,cell_of_row wd _ 5 _ _ _ FQ,cell_of_row wd _ 6 _ _ _ FQ,cell_of_row wd _ 7 _ _ _ FQ,cell_of_row wd _ 8 _ _ _ FQ⟩);go_upto_region 6 with fail;refine zy ue [0,1,3,4,5,6,7,8,9,10] (fun W=> W.cell? ⟨w.heap.size,1,none⟩=some (.int .i64 o.v)) (fun W=> W.cell? ⟨cb,0,none⟩=some (.int .i64 (c'.nv:Int))/\W.cell? ⟨cb,1,none⟩=some (.int .i64 (c'.ng:Int))/\W.cell? ⟨cb,2,none⟩=some (.int .i64 (c'.nb:Int))/\W.cell? ⟨cb,3,none⟩=some (.int .u64 (c'.fl:Int))/\W.cell? ⟨cb,4,none⟩=some (.slice h'.va c'.vols.length h'.vc)/\W.cell? ⟨cb,5,none⟩=some (.slice h'.ga c'.groups.length h'.gc)/\W.cell? ⟨cb,6,none⟩=some (.slice h'.ba c'.books.length h'.bc)/\W.cell? ⟨cb,7,none⟩=some (.slice h'.ka c'.kept.length h'.kc)/\W.cell? ⟨cb,8,none⟩=some (.slice h'.ta c'.times.length h'.tc)) ?_;rw [<- N8];clear N8;refine tL 0 (d:=some 60) HZ ?_;refine tL 1 (d:=some 61) HZ ?_;refine tL 3 (d:=some 63) HZ ?_;refine tL 4 (d:=some 64) HZ ?_;refine tS 2 (d:=some 62) Av ?_;refine tL 5 (d:=some 65) HZ ?_;refine tL 6 (d:=some 66) HZ ?_;refine zd (i:=7) ue rfl (fun K' hK=> ?_);go_simp;refine (fun hz=> hK.out _ _ ⟨hz,fun h=> absurd h uf⟩ ?_) (zpF HZ Cm);replace HZ:=hz;clear hz
   try dsimp only at HZ
   have X3:=AS.out.1.cat9 (c':=c') uai;have Ra:=zp2 AS.out.2.2.1 AS.out.1.lo h' c';have q5:=zpF (x:=x) (b:=⟨w.heap.size,5,none⟩) (v0:= .int .i64 (c'.nv:Int)) (v1:= .int .i64 (c'.ng:Int)) (v2:= .int .i64 (c'.nb:Int)) (v3:= .int .u64 (c'.fl:Int)) (v4:= .slice h'.va c'.vols.length h'.vc) (v5:= .slice h'.ga c'.groups.length h'.gc) (v6:= .slice h'.ba c'.books.length h'.bc) (v7:= .slice h'.ka c'.kept.length h'.kc) (v8:= .slice h'.ta c'.times.length h'.tc) (cell_of_row wd _ 5 _ _ _ (AU.out wd AS.out.2.1)) Cm;generalize World.setCell _ (⟨x,8,none⟩:Addr) _=wT at *;clear y0 g0 y1 g1 y2 g2 y3 g3 y4 g4 y5 g5 y6 g6 y7 g7 y8 g8 y10 g10;obtain ⟨-,-,-,-,-,-,-,-,-,-,y10,-,-,-,-,yf⟩:=X3.reads;have g10:=yf 10;clear yf
   try simp only [Act.put,zSs]
   clear hK K';refine tL 8 (d:=some 67) HZ ?_;refine tL 9 (d:=some 68) HZ ?_;refine zd (i:=10) ue rfl (fun K' hK=> ?_);go_simp;refine hK.out _ _ ⟨zam HZ Cm,fun h=> absurd h uf⟩ ?_
   try simp only [Act.put,zSs]
   clear hK K';refine zI ue ?_ _;have X5:=X3.vol1 o.v.toNat;rw [Ik] at X5;have A8:=Ra.setCell (p:=⟨x,10,none⟩) AS.out.1.lo (.int .i64 o.v);have q1:=zam (a:=⟨x,10,none⟩) (v:= .int .i64 o.v) HZ Cm;replace q5:=zam (a:=⟨x,10,none⟩) (v:= .int .i64 o.v) q5 Cm;generalize World.setCell _ (⟨x,10,none⟩:Addr) _=wS at *;have LG:=zh (show EvC w0 wS p h a cf st nb k Q x h' {Chg.nil st.c sq with c:=c',vol:=o.v.toNat,puts:=zbw st.l o.v.toNat o.pt.toNat st.seq zno 0} (.slice none 0 0) [] from ⟨H1.out.st,A8,X5⟩)
   have ZS:=zh (zn q1 q5);obtain ⟨many,NK⟩:∃many,many=max zno now:=⟨_,rfl⟩;have Tx:max (zno:Int) (now:Int)=(many:Int):=ud;have UC:=zh Tx;have qZ:=zh (show many<=1000 by have:=vh.out;have:=J8.out.2;omega)
   rw [<- NK] at LI;have Ho:=zh AS.out.2.2.2.2;clear X3 X5 Ra A8 HZ Av q1 q5 y10 g10;go_wp2_with fail;clear Tx NK
   go_loopw [72] (fun u wr=> ∃(i:Nat) (pv:Value) (pl:List Ph),i<=many/\u= .int .i64 (i:Int)/\EvC w0 wr p h a cf st nb k Q x h' {Chg.nil st.c sq with c:=c',vol:=o.v.toNat,puts:=zbw st.l o.v.toNat o.pt.toNat st.seq zno i} pv pl/\wr.cell? ⟨w.heap.size,1,none⟩=some (.int .i64 o.v)/\wr.cell? ⟨w.heap.size,5,none⟩=some (.int .u64 o.pt)/\pv.ownBlock≠some w.heap.size) (fun u _=> many - (intOf u).toNat)
   case atStart=> exact ⟨0, .slice none 0 0, [],Nat.zero_le _,rfl,LG.out,ZS.out.1,ZS.out.2,fun e=> by cases e⟩
   case round=>
        obtain ⟨i,pv,pl,hi,rfl,hE,q1,q5,Aj⟩:=hrel
        by_cases hlt:i < many
        ·have QV:=qZ.out;have Bb:(i:Int) < max (zno:Int) (now:Int):=by rw [UC.out];omega
         have FS:IntKind.i64.wrap ((i:Int)+1)=((i+1:Nat):Int):=by rw [zw _ ud];omega
         obtain ⟨a1,Kh⟩:∃a1,atL st.l o.v.toNat i st.seq=a1:=⟨_,rfl⟩;have CX:=zlB st.l o.v.toNat o.pt.toNat st.seq zno i;rw [Kh] at CX;have HI:=zh (zn CX (zn hlt (zn (znc st.l o.v.toNat o.pt.toNat st.seq zno i) (show i<=1000 by omega))))
         obtain ⟨F,L,E,hH⟩:=hE.stw.hist;have AE:=hE.stw.inv.seq;have Cj:=zh (fun (W:World) (hW:Below wr.heap.size wr W)=> zf6 (hH.below hW) hE.stw.llen o.v.toNat i st.seq (by have:=HV.out.1;omega) ud AE)
         have Hc:=zh (fun (W:World) (hW:Below wr.heap.size wr W)=> zf6 (hH.below hW) hE.stw.llen o.v.toNat i o.pt.toNat (by have:=HV.out.1;omega) ud (by have:=HV.out.2;omega))
         rw [Kh] at Cj;simp only [Ik,Ly] at Cj Hc;unfold zv at Cj Hc;have HE:=zh hE;have Dy:=zh (fun (W:World) (hW:Below wr.heap.size wr W)=> show W.cell? ⟨p,9,none⟩=some (.pointer (some ⟨a.ph,0,none⟩))/\W.cell? ⟨p,18,none⟩=some (.int .u64 (st.seq:Int))/\W.cell? ⟨w.heap.size,1,none⟩=some (.int .i64 o.v) from ⟨(HE.out.below hW).stw.reads.2.2.2.2.2.2.2.2.2.1,(HE.out.below hW).stw.reads.2.2.2.2.2.2.2.2.2.2.2.2.2.2.2.2.2.2.1,zbB hW q1⟩);have UG:=zh q5;have WA:=zh Aj;have s9:=hE.stw.reads.2.2.2.2.2.2.2.2.2.1;have s18:=hE.stw.reads.2.2.2.2.2.2.2.2.2.2.2.2.2.2.2.2.2.2.1;clear hH hE CX Kh AE q5 Aj QV;have Cu:Below wr.heap.size wr wr.drew:=zr.drew;go_wp2_with fail
         go_region_held3 (fun W=> W.cell? ⟨p,9,none⟩=some (.pointer (some ⟨a.ph,0,none⟩))/\W.cell? ⟨p,18,none⟩=some (.int .u64 (st.seq:Int))/\W.cell? ⟨w.heap.size,1,none⟩=some (.int .i64 o.v)) (first | with_reducible exact Bg | go_keep)
          ((go_at_call 21;((with_reducible refine (Cj.out _ Cu).mono ?_);rintro e w5 ⟨rfl,Bz⟩;have Bz:Below wr.heap.size wr w5:=Cu.trans Bz;have Bg:=Dy.out w5 Bz)))
         clear Bg Cu;have q1:=(Dy.out w5 Bz).2.2;have q5:=zbB Bz UG.out;have Aj:=WA.out;clear s9 s18
         by_cases G8:i < zno
         ·have Mz:(i:Int) < (zno:Int):=ud;obtain ⟨wa,Ld⟩:∃wa,atL st.l o.v.toNat i o.pt.toNat=wa:=⟨_,rfl⟩;have RE:=zh (show zeN st.l o.v.toNat o.pt.toNat zno i=wa by unfold zeN;rw [if_pos G8,Ld])
          rw [Ld] at Hc;have vV:=Bz;have Lg:=zh Bz;have LP:=zh (fun (W:World) (hW:Below w5.heap.size w5 W)=> show W.cell? ⟨p,9,none⟩=some (.pointer (some ⟨a.ph,0,none⟩))/\W.cell? ⟨w.heap.size,1,none⟩=some (.int .i64 o.v)/\W.cell? ⟨w.heap.size,5,none⟩=some (.int .u64 o.pt) from ⟨(Dy.out W (Lg.out.trans (hW.mono Lg.out.size))).1,(Dy.out W (Lg.out.trans (hW.mono Lg.out.size))).2.2,zbB (Lg.out.trans (hW.mono Lg.out.size)) UG.out⟩);have s9:=(Dy.out w5 Bz).1;clear Ld Bz vV;have Cu:Below w5.heap.size w5 w5.drew:=zr.drew;go_wp2_with fail
          go_region_held3 (fun W=> W.cell? ⟨p,9,none⟩=some (.pointer (some ⟨a.ph,0,none⟩))/\W.cell? ⟨w.heap.size,1,none⟩=some (.int .i64 o.v)/\W.cell? ⟨w.heap.size,5,none⟩=some (.int .u64 o.pt)) (first | with_reducible exact Bg | go_keep)
            ((go_at_call 21;((with_reducible refine (Hc.out _ (Lg.out.trans (Cu.mono Lg.out.size))).mono ?_);rintro e w6 ⟨rfl,Bz⟩;have Bz:Below w5.heap.size w5 w6:=Cu.trans Bz;have Bg:=LP.out w6 Bz)))
          clear Bg Cu;replace q1:=(LP.out w6 Bz).2.1;replace q5:=(LP.out w6 Bz).2.2;have Fe:=zh (HE.out.below (Lg.out.trans (Bz.mono Lg.out.size)));clear Bz s9 HE Cj Hc Dy LP UG WA
          by_cases h0:wa=a1
          ·have i0:(((wa:Int):Int) !=(a1:Int))=false:=by rw [<- h0];simp
           have hS:zbw st.l o.v.toNat o.pt.toNat st.seq zno (i+1)=zbw st.l o.v.toNat o.pt.toNat st.seq zno i:=by rw [HI.out.1,RE.out,if_neg ud,List.append_nil]
           have HF:=zh (show EvC w0 w6 p h a cf st nb k Q x h' {Chg.nil st.c sq with c:=c',vol:=o.v.toNat,puts:=zbw st.l o.v.toNat o.pt.toNat st.seq zno (i+1)} pv pl by rw [hS];exact Fe.out)
           have HQ:=zh (zn q1 (zn q5 Aj));clear hS h0 q1 q5 Aj;go_wp2_with fail
           go_roundw
           case rel=> exact ⟨i+1,pv,pl,HI.out.2.1,by go_num,HF.out,HQ.out.1,HQ.out.2.1,HQ.out.2.2⟩
           case measure=> simp [intOf];omega
          have i0:(((wa:Int):Int) !=(a1:Int))=true:=uo;have hS:zbw st.l o.v.toNat o.pt.toNat st.seq zno (i+1)=zbw st.l o.v.toNat o.pt.toNat st.seq zno i++ [⟨i,wa,none⟩]:=by rw [HI.out.1,RE.out,if_pos h0]
          have Ac:pl.length<=1000:=by
           have h1:=congrArg List.length Fe.out.chg.map;rw [List.length_map] at h1;have h2:=HI.out.2.2.1;have h4:pl.length=(zbw st.l o.v.toNat o.pt.toNat st.seq zno i).length:=h1;have:=HI.out.2.2.2
           omega
          obtain ⟨v',w',hr,⟨k1,k2⟩,k3,⟨a',n',c9,rfl⟩,Kr,E7,Cv,Af⟩:=Fe.out.chg.push Fe.out.stw.qlt ⟨i,wa,none⟩ (fun z hz=> by cases hz) Ac Fe.out.bel.size
          obtain ⟨pa,pn9,pc,rfl⟩:=Fe.out.chg.puts.form;have c11:=Fe.out.chg.reads.2.2.2.2.2.2.2.2.2.2.2.1;have MJ:w.heap.size < w6.heap.size:=by
           rcases Nat.lt_or_ge w.heap.size w6.heap.size with h1 | h1
           ·exact h1
           simp [World.cell?,Array.getElem?_eq_none h1] at q1
          have PW:=Cv.block w.heap.size MJ (fun hd=> hd.elim (fun e=> Cm e.symm) Aj);have HF:=zh (show EvC w0 (w'.setCell ⟨x,11,none⟩ (.slice a' n' c9)) p h a cf st nb k Q x h' {Chg.nil st.c sq with c:=c',vol:=o.v.toNat,puts:=zbw st.l o.v.toNat o.pt.toNat st.seq zno (i+1)} (.slice a' n' c9) (pl++ [⟨i,wa,none⟩]) by rw [hS];exact ⟨Fe.out.st,Fe.out.bel.trans E7,Kr⟩)
          have HG:=zh (zn (zdf q1 PW) (zn (zdf q5 PW) (show (Value.slice a' n' c9).ownBlock≠some w.heap.size from fun e2=> (Af _ e2).elim Aj (fun e=> by omega))))
          unfold zaT dV at hr k3;clear hS h0 Ac Kr E7 Cv Af MJ PW Fe q1 q5 Aj
          go_wp2_with (at_builtin;refine za rfl _ _ _ rfl hr ?_)
          go_roundw
          case rel=> exact ⟨i+1,_,_,HI.out.2.1,by go_num,HF.out,HG.out.1,HG.out.2.1,HG.out.2.2⟩
          case measure=> simp [intOf];omega
         have Mz:¬(i:Int) < (zno:Int):=ud;have RE:=zh (show zeN st.l o.v.toNat o.pt.toNat zno i=0 by unfold zeN;rw [if_neg G8])
         have Fe:=zh (HE.out.below Bz);clear Bz HE Cj Hc Dy UG WA
         by_cases h0:0=a1
         ·have i0:((0:Int) !=(a1:Int))=false:=by rw [<- h0];simp
          have hS:zbw st.l o.v.toNat o.pt.toNat st.seq zno (i+1)=zbw st.l o.v.toNat o.pt.toNat st.seq zno i:=by rw [HI.out.1,RE.out,if_neg ud,List.append_nil]
          have HF:=zh (show EvC w0 w5 p h a cf st nb k Q x h' {Chg.nil st.c sq with c:=c',vol:=o.v.toNat,puts:=zbw st.l o.v.toNat o.pt.toNat st.seq zno (i+1)} pv pl by rw [hS];exact Fe.out)
          have HQ:=zh (zn q1 (zn q5 Aj));clear hS h0 q1 q5 Aj;go_wp2_with fail
          go_roundw
          case rel=> exact ⟨i+1,pv,pl,HI.out.2.1,by go_num,HF.out,HQ.out.1,HQ.out.2.1,HQ.out.2.2⟩
          case measure=> simp [intOf];omega
         have i0:((0:Int) !=(a1:Int))=true:=uo;have hS:zbw st.l o.v.toNat o.pt.toNat st.seq zno (i+1)=zbw st.l o.v.toNat o.pt.toNat st.seq zno i++ [⟨i,0,none⟩]:=by rw [HI.out.1,RE.out,if_pos h0]
         have Ac:pl.length<=1000:=by
          have h1:=congrArg List.length Fe.out.chg.map;rw [List.length_map] at h1;have h2:=HI.out.2.2.1;have h4:pl.length=(zbw st.l o.v.toNat o.pt.toNat st.seq zno i).length:=h1;have:=HI.out.2.2.2
          omega
         obtain ⟨v',w',hr,⟨k1,k2⟩,k3,⟨a',n',c9,rfl⟩,Kr,E7,Cv,Af⟩:=Fe.out.chg.push Fe.out.stw.qlt ⟨i,0,none⟩ (fun z hz=> by cases hz) Ac Fe.out.bel.size
         obtain ⟨pa,pn9,pc,rfl⟩:=Fe.out.chg.puts.form;have c11:=Fe.out.chg.reads.2.2.2.2.2.2.2.2.2.2.2.1;have MJ:w.heap.size < w5.heap.size:=by
          rcases Nat.lt_or_ge w.heap.size w5.heap.size with h1 | h1
          ·exact h1
          simp [World.cell?,Array.getElem?_eq_none h1] at q1
         have PW:=Cv.block w.heap.size MJ (fun hd=> hd.elim (fun e=> Cm e.symm) Aj);have HF:=zh (show EvC w0 (w'.setCell ⟨x,11,none⟩ (.slice a' n' c9)) p h a cf st nb k Q x h' {Chg.nil st.c sq with c:=c',vol:=o.v.toNat,puts:=zbw st.l o.v.toNat o.pt.toNat st.seq zno (i+1)} (.slice a' n' c9) (pl++ [⟨i,0,none⟩]) by rw [hS];exact ⟨Fe.out.st,Fe.out.bel.trans E7,Kr⟩)
         have HG:=zh (zn (zdf q1 PW) (zn (zdf q5 PW) (show (Value.slice a' n' c9).ownBlock≠some w.heap.size from fun e2=> (Af _ e2).elim Aj (fun e=> by omega))))
         unfold zaT dV at hr k3;simp only [show ((0:Nat):Int)=0 from rfl] at hr k3;clear hS h0 Ac Kr E7 Cv Af MJ PW Fe q1 q5 Aj
         go_wp2_with (at_builtin;refine za rfl _ _ _ rfl hr ?_)
         go_roundw
         case rel=> exact ⟨i+1,_,_,HI.out.2.1,by go_num,HF.out,HG.out.1,HG.out.2.1,HG.out.2.2⟩
         case measure=> simp [intOf];omega
        have Bb:¬(i:Int) < max (zno:Int) (now:Int):=by rw [UC.out];omega
        obtain rfl:i=many:=ud;have HE:=zh hE;clear hE q1 q5 Aj;go_wp2_with fail;go_ret;unfold EvE;rw [LI.out];refine ⟨ubj,HE.out.bel,fun e=> ⟨h',pv,pl, ?_⟩⟩;rcases Ho.out with ⟨h9,-⟩ | ⟨-,h9⟩
        ·have hX:=HE.out.chg;rw [h9] at hX;exact hX
        exact absurd e h9
 have Q9:((zeo:Int) !=0)=true:=uo;go_wp2_with fail;go_ret;unfold EvE;rw [Br.out.1 Ju];exact ⟨ubj,H1.out.bel.trans (AI.out.mono H1.out.bel.size),fun e=> absurd e Ju⟩
end
section
open Go.RowKit
set_option maxRecDepth 100000
set_option maxHeartbeats 16000000
set_option linter.unusedSectionVars false
theorem zgS (c:Ct) (l:List En) (s:Nat) (o:PO):(rzE c o.v s o.n.toNat=0/\∃y,c.find o.v=some y/\za6 c l s o=(0,{Chg.nil c s with c:=rzC c o.v s o.n.toNat,vol:=o.v.toNat,puts:=zaL l o.v.toNat (s - 1) o.n.toNat (zas y.sizes - o.n.toNat)}))\/(rzE c o.v s o.n.toNat≠0/\za6 c l s o=(rzE c o.v s o.n.toNat,Chg.nil c s)):=by
 unfold rzE rzC za6
 cases c.find o.v with
 | none=> exact .inr ⟨uh,rfl⟩
 | some y=>
   simp only
   by_cases h:(zbf y.sizes s o.n.toNat).1=0
   ·exact .inl ⟨h,y,rfl,by rw [if_neg ud]⟩
   exact .inr ⟨h,by rw [if_pos h]⟩
attribute [local simp] Below.refl
theorem rzR {p:Prop} (h:p:=by
 have Ag:=(Below.refl w4.heap.size w4).drew;rcases Br.out with ⟨h0,y,hy,CH⟩ | ⟨h0,CH⟩
 ·have Mv:zo6 (st.c.find o.v)=0:=by rw [hy];rfl
  have AR:st.c.size o.v=zas y.sizes:=by unfold Ct.size;rw [hy]
  have MU:=zbR (DX.out.vols y (za0 hy).1).sizes;have Ln:=zh fun (W:World) (hW:Below w1.heap.size w1 W)=> zcI (H1.out.1.below hW).stw.cat DX.out o.v;rw [AR,Mv] at Ln;unfold Ch.val Ch.cells at Ln;have HE:=zh CH;obtain rfl:c2=cn:=Ba.elim (·.1) fun e=> absurd h0 e.2;generalize zas y.sizes=z at *;clear Mv AR hy CH Ba;subst h0;go_wp2_with fail;refine rg (fun W=> Far x w4 W) (fun hS=> ?_) (.of Ag)
  repeat refine tk ?_
  refine cl (Ln.out _ (Cz.out.trans (Ag.mono Cz.out.size))) ?_;rintro _ w5 ⟨rfl,hb⟩;have O8:=Ag.trans hb;refine ⟨_,rfl, .of O8,fun hS=> ?_⟩
  repeat refine tk ?_
  refine rz ?_;have O7:=Cz.out.trans (O8.mono Cz.out.size);have FG:=dP.below O8;have q:=zJ (dO.out w5 hS);obtain ⟨z0,z1,z2,z3,z4,z5,z6,z7,z8,-⟩:=q;have q:=(H1.out.1.chg.below O7).reads;obtain ⟨y0,y1,y2,y3,y4,y5,y6,y7,y8,-,-,-,-,-,-,yf⟩:=q;have o1:w5.cell? ⟨w.heap.size,1,none⟩=some (.int .i64 o.v):=(O w5 hS 1).1;clear hb Ag O8 dP Ln R4;go_upto_region 6 with fail;generalize hw:World.setCell _ (⟨x,8,none⟩:Addr) _=wS;have q:=ChM.lay9 hw.symm (H1.out.1.chg.below O7) FG;obtain ⟨X3,F3,B3,-⟩:=q;have HH:=zh (zhU (p:=p) (a:=a) (cf:=cf) (st:=st) ⟨H1.out.1.st,(H1.out.1.bel.trans (O7.mono H1.out.1.bel.size)).trans B3,X3⟩ rfl o.v.toNat o.n.toNat z uN uN ud);simp only [show ((o.v.toNat:Nat):Int)=o.v by have:=HV.out;omega,show ((o.n.toNat:Nat):Int)=o.n by have:=HV.out;omega] at HH
  replace o1:wS.cell? ⟨w.heap.size,1,none⟩=some (.int .i64 o.v):=(O wS (hS.tr F3) 1).1;have o4:wS.cell? ⟨w.heap.size,4,none⟩=some (.int .i64 o.n):=(O wS (hS.tr F3) 4).1;clear X3 F3 B3 hw z0 z1 z2 z3 z4 z5 z6 z7 z8 y0 y1 y2 y3 y4 y5 y6 y7 y8 yf hS S O E;go_wp2_with fail;refine HH.out.mono ?_;rintro e w6 ⟨rfl,pv,pl,X6⟩;clear HH o1 o4;go_wp2_with fail;go_ret;exact ⟨by rw [HE.out];rfl,X6.bel,fun _=> ⟨h2,pv,pl,by rw [HE.out,show sq - 1=st.seq by have:=HV.out;omega];exact X6.chg⟩⟩
 clear Ag;go_wp2_with fail;go_ret;exact ⟨by rw [CH];rfl,H1.out.1.bel.trans (Cz.out.mono H1.out.1.bel.size),fun e=> absurd (by rw [CH] at e;exact e) h0⟩):p:=h
theorem zjr {w0 w:World} {p:Nat} {h:Ch} {a:StA} {cf:Cfg} {st:PS} {nb k:Nat} {Q:Nat->Prop} {x sq:Nat} {o:PO} {da:Option Addr} {dn dc:Nat} {ma:Option Addr} {mn mc:Nat} (H:EvC w0 w p h a cf st nb k Q x h (Chg.nil st.c sq) (.slice none 0 0) []) (AE:sq=st.seq+1) (hO:OpM w o da dn ma mn) (hv:1<=o.v/\o.v<=65535) (hn:1<=o.n/\o.n<=32):
 Calls Tryz.prog 54 #[.pointer (some ⟨p,0,none⟩), .pointer (some ⟨x,0,none⟩), .agg (opA o da dn dc ma mn mc)] w (EvE w0 Q x (za6 st.c st.l sq o)):=by
 obtain ⟨w1,Ab,H1,S,O,E,hb⟩:=ev0 H hO dc mc;have Br:=zh (zgS st.c st.l sq o);have HC:=zh fun (W:World) (hW:Below w1.heap.size w1 W) (R:Nat->Prop) (hR:∀j,R j->QX Q x j\/w1.heap.size<=j) (B0:∀j,R j->j < W.heap.size)=> zgt (H1.out.1.chg.cat.outs (zD.of_below hW) hR) H.st.inv.ct B0 o.v o.n.toNat sq ud;have DX:=zh H.st.inv.ct;have HV:=zh (zn hv (zn hn AE));have tl:=Bx.mk @rzR;have sW:=zh fun W (h:Below w1.heap.size w1 W)=> zn (Far.of h:Far x w1 W) (E W h 14).1;obtain ⟨cn,DR⟩:∃cn,rzC st.c o.v sq o.n.toNat=cn:=⟨_,rfl⟩;obtain ⟨ec,CG⟩:∃ec,rzE st.c o.v sq o.n.toNat=ec:=⟨_,rfl⟩;have FX:((o.n.toNat:Nat):Int)=o.n:=ud;simp only [Chg.nil,FX] at HC;rw [CG,DR] at Br HC;unfold opA zcH zb8 Ch.val Ch.cells at *;clear H AE hO hv hn DR CG FX
 go_in
 go_wp2_with fail;rw [<- Ab];clear Ab;refine rg (fun W=> Far x w1 W/\W.cell? ⟨x,14,none⟩=some (.int .u64 (sq:Int))) (fun hS=> ?_) (sW.out _ hb)
 repeat refine tk ?_
 refine ca 16 (HC.out _ hb (QX Q x) (fun _=> .inl) (cw H1.out.1 · · hb)) ?_ ?_
 ·exact caA
 exact caB
end
end Go.Proofs.YtaoceecfjlkmdaaGreat
