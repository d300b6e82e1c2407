/- Lemmas of the walks, merged and pressed by press.py. Conditions: those of each theorem. -/
import Derived.Test.YtaoceecfjlkmdaaGreatM35
set_option maxRecDepth 100000
set_option maxHeartbeats 64000000
set_option linter.all false
namespace Go.Proofs.YtaoceecfjlkmdaaGreat
open Tryz
section
open Go.RowKit
theorem zoA (x:Option Vh):∃(z0 z1:Int) (ua:Option Addr) (un uc:Nat),znH x= .agg #[.int .i64 z0, .int .u64 z1, .slice ua un uc]:=by
 cases x with
 | none=> exact ⟨_,_,_,_,_,rfl⟩
 | some x=> exact ⟨_,_,_,_,_,rfl⟩
theorem zm1 (c:Ct) (o:PO) (hk:o.k=11) {b:Bool} (hb:(c.find o.v).isSome=b):zav c o=if b then (match zjz c.times o.pt.toNat with | none=> (44,0) | some n=> (0,n)) else (40,0):=by
 unfold zav;rw [if_pos hk]
 cases hf:c.find o.v with
 | none=> rw [hf] at hb;cases hb;rfl
 | some y=> rw [hf] at hb;cases hb;rfl
theorem zlp {w:World} {p:Nat} {h:Ch} {a:StA} {cf:Cfg} {st:PS} {nb k:Nat} {Q:Nat->Prop} {o:PO} {da:Option Addr} {dn dc:Nat} {ma:Option Addr} {mn mc:Nat} (H:StW w p h a cf st nb k Q) (Ew:0<=o.pt/\o.pt < 18446744073709551616) (hk:¬o.k=11/\¬o.k=12):
 Calls Tryz.prog 105 #[.pointer (some ⟨p,0,none⟩), .agg (opA o da dn dc ma mn mc)] w fun e w'=> e= .returned (.tuple #[.int .u64 ((zav st.c o).2:Nat), .int .i64 ((zav st.c o).1:Nat)])/\Below w.heap.size w w':=by
 have HP:=zh (show zav st.c o=(0,o.pt.toNat) by unfold zav;rw [if_neg hk.1,if_neg hk.2])
 have GN:((o.pt.toNat:Nat):Int)=o.pt:=ud;have BY:(o.k==11)=false:=by simpa using hk.1
 have Cg:(o.k==12)=false:=by simpa using hk.2
 obtain ⟨w1,Ab⟩:∃w1,w1=w.alloc (.cells (opA o da dn dc ma mn mc) 40):=⟨_,rfl⟩;have Aa:Below w.heap.size w w1:=by rw [Ab];exact zr.alloc zl _
 have hX:w1.heap[w.heap.size]? =some (.cells (opA o da dn dc ma mn mc) 40 (0,0)):=by rw [Ab];exact heap_alloc_new w _
 have H1:=zh (H.below Aa);have Ak:=zh Aa;have CI:=(zg hX).1;have AU:=zh (fun (W:World) (hW:Below w1.heap.size w1 W)=> (hW.block w.heap.size CI).trans hX);have Al:=zh (fun (W:World) (hW:Below w1.heap.size w1 W)=> (H1.out.below hW).reads);obtain ⟨s0,s1,s2,s3,s4,s5,s6,s7,s8,s9,s10,s11,s12,s13,s14,s15,s16,s17,s18,s19,-⟩:=H1.out.reads;obtain ⟨o0,o1,o2,o3,o4,o5,o6,o7⟩:=rd8 (w:=w1) hX;clear H Aa hX CI;unfold opA at *;go_in;go_upto_region 1 with fail;rw [<- Ab];clear Ab;go_wp2_with fail;go_ret2;rw [HP.out];exact ⟨by rw [GN];rfl,Ak.out⟩
theorem zlo {w:World} {p:Nat} {h:Ch} {a:StA} {cf:Cfg} {st:PS} {nb k:Nat} {Q:Nat->Prop} {o:PO} {da:Option Addr} {dn dc:Nat} {ma:Option Addr} {mn mc:Nat} (H:StW w p h a cf st nb k Q) (Ew:0<=o.pt/\o.pt < 18446744073709551616) (hk:o.k=12):
 Calls Tryz.prog 105 #[.pointer (some ⟨p,0,none⟩), .agg (opA o da dn dc ma mn mc)] w fun e w'=> e= .returned (.tuple #[.int .u64 ((zav st.c o).2:Nat), .int .i64 ((zav st.c o).1:Nat)])/\Below w.heap.size w w':=by
 have hp:zav st.c o=ziB st.c o.i o.v:=by unfold zav ziB;rw [if_neg ud,if_pos hk];cases st.c.book o.i <;> rfl
 rw [hp];have HK:=zh hk;obtain ⟨w1,Ab⟩:∃w1,w1=w.alloc (.cells (opA o da dn dc ma mn mc) 40):=⟨_,rfl⟩;have Aa:Below w.heap.size w w1:=by rw [Ab];exact zr.alloc zl _
 have hX:w1.heap[w.heap.size]? =some (.cells (opA o da dn dc ma mn mc) 40 (0,0)):=by rw [Ab];exact heap_alloc_new w _
 have H1:=zh (H.below Aa);have Ak:=zh Aa;have CI:=(zg hX).1;have AU:=zh (fun (W:World) (hW:Below w1.heap.size w1 W)=> (hW.block w.heap.size CI).trans hX);have Al:=zh (fun (W:World) (hW:Below w1.heap.size w1 W)=> (H1.out.below hW).reads);obtain ⟨s0,s1,s2,s3,s4,s5,s6,s7,s8,s9,s10,s11,s12,s13,s14,s15,s16,s17,s18,s19,-⟩:=H1.out.reads;obtain ⟨o0,o1,o2,o3,o4,o5,o6,o7⟩:=rd8 (w:=w1) hX;clear H Aa hX CI;replace o0:=show w1.cell? ⟨w.heap.size,0,none⟩=some (.int .i64 o.k) from o0;rw [HK.out] at o0;have HD:=zh (fun (W:World) (hW:Below w1.heap.size w1 W)=> zmt (H1.out.cat.below hW) H1.out.inv.ct o.i o.v);obtain ⟨ec,CG⟩:∃ec,(ziB st.c o.i o.v).1=ec:=⟨_,rfl⟩;obtain ⟨sc,Zi⟩:∃sc,(ziB st.c o.i o.v).2=sc:=⟨_,rfl⟩;rw [CG,Zi] at HD;rw [CG,Zi];unfold Ch.val Ch.cells at HD;clear CG Zi hk hp;unfold opA at *;go_in;go_upto_region 1 with fail;rw [<- Ab];clear Ab;go_upto_region 11 with fail;have HS:=zh (fun (W:World) (hW:Below w1.heap.size w1 W)=> show W.cell? ⟨p,0,none⟩=some (.int .i64 (st.c.nv:Int))/\W.cell? ⟨p,1,none⟩=some (.int .i64 (st.c.ng:Int))/\W.cell? ⟨p,2,none⟩=some (.int .i64 (st.c.nb:Int))/\W.cell? ⟨p,3,none⟩=some (.int .u64 (st.c.fl:Int))/\W.cell? ⟨p,4,none⟩=some (.slice h.va st.c.vols.length h.vc)/\W.cell? ⟨p,5,none⟩=some (.slice h.ga st.c.groups.length h.gc)/\W.cell? ⟨p,6,none⟩=some (.slice h.ba st.c.books.length h.bc)/\W.cell? ⟨p,7,none⟩=some (.slice h.ka st.c.kept.length h.kc)/\W.cell? ⟨p,8,none⟩=some (.slice h.ta st.c.times.length h.tc)/\W.cell? ⟨w.heap.size,1,none⟩=some (.int .i64 o.v)/\W.cell? ⟨w.heap.size,2,none⟩=some (.int .i64 o.i) from ⟨(Al.out W (hW)).1,(Al.out W (hW)).2.1,(Al.out W (hW)).2.2.1,(Al.out W (hW)).2.2.2.1,(Al.out W (hW)).2.2.2.2.1,(Al.out W (hW)).2.2.2.2.2.1,(Al.out W (hW)).2.2.2.2.2.2.1,(Al.out W (hW)).2.2.2.2.2.2.2.1,(Al.out W (hW)).2.2.2.2.2.2.2.2.1,cell_of_row W _ 1 _ _ _ (AU.out W (hW)),cell_of_row W _ 2 _ _ _ (AU.out W (hW))⟩)
 go_cut [10,11] from 44 to 55 (fun u10 u11 wx=> ∃(cb:Nat) (v0:Int) (ua:Option Addr) (un uc:Nat),u10= .pointer (some ⟨cb,0,none⟩)/\u11= .int .i64 (ec:Int)/\Below w1.heap.size w1 wx/\wx.heap[cb]? =some (.cells #[.int .i64 v0, .int .u64 (sc:Int), .slice ua un uc] 132 (0,0)))
 case first=>
  have Cs:Below w1.heap.size w1 w1.drew:=zr.drew;have Av:=zn trivial (HS.out _ Cs);refine zy ue [0,1,2,4,6,9,10,11,13,14] (fun _=> True) (fun W=> W.cell? ⟨p,0,none⟩=some (.int .i64 (st.c.nv:Int))/\W.cell? ⟨p,1,none⟩=some (.int .i64 (st.c.ng:Int))/\W.cell? ⟨p,2,none⟩=some (.int .i64 (st.c.nb:Int))/\W.cell? ⟨p,3,none⟩=some (.int .u64 (st.c.fl:Int))/\W.cell? ⟨p,4,none⟩=some (.slice h.va st.c.vols.length h.vc)/\W.cell? ⟨p,5,none⟩=some (.slice h.ga st.c.groups.length h.gc)/\W.cell? ⟨p,6,none⟩=some (.slice h.ba st.c.books.length h.bc)/\W.cell? ⟨p,7,none⟩=some (.slice h.ka st.c.kept.length h.kc)/\W.cell? ⟨p,8,none⟩=some (.slice h.ta st.c.times.length h.tc)/\W.cell? ⟨w.heap.size,1,none⟩=some (.int .i64 o.v)/\W.cell? ⟨w.heap.size,2,none⟩=some (.int .i64 o.i)) ?_;refine tL 0 (d:=some 45) trivial ?_;refine tL 1 (d:=some 46) trivial ?_;refine tL 2 (d:=some 47) trivial ?_;refine tL 4 (d:=some 49) trivial ?_;refine tL 6 (d:=some 51) trivial ?_;refine tS 3 (d:=some 48) Av ?_;refine tS 5 (d:=some 50) Av ?_;refine tS 7 (d:=some 52) Av ?_;refine zbq (i:=8) (i':=12) ue rfl rfl (fun K' hK=> ?_) (fun K' hK=> ?_)
  ·refine zA (o:=⟨some 53,_,_,_,_,_⟩) ue 144 Tryz.func144 ue rfl _ _ rfl #[.agg #[.int .i64 (st.c.nv:Int), .int .i64 (st.c.ng:Int), .int .i64 (st.c.nb:Int), .int .u64 (st.c.fl:Int), .slice h.va st.c.vols.length h.vc, .slice h.ga st.c.groups.length h.gc, .slice h.ba st.c.books.length h.bc, .slice h.ka st.c.kept.length h.kc, .slice h.ta st.c.times.length h.tc], .int .i64 o.i, .int .i64 o.v] ug (HD.out _ Cs) ?_;rintro r wD ⟨v0,ua,un,uc,rfl,As⟩;refine ⟨_,rfl, ?_⟩;have CN:=As;have DE:Below w1.heap.size w1 wD:=Cs.trans (As.mono Cs.size);have AZ:=zn trivial (HS.out _ DE);refine hK.out _ _ ⟨trivial,fun _=> AZ.2⟩ ?_
   try simp only [Act.put,zSs]
   clear hK K';refine tL 9 (d:=some 44) trivial ?_;refine tL 10 (d:=some 54) trivial ?_;refine tL 11 (d:=some 55) trivial ?_;refine zd (i:=12) ue rfl (fun K' hK=> ?_);go_simp;obtain ⟨wB,B2⟩:∃wX,wX=wD.alloc (.cells #[.int .i64 0, .int .u64 0, .slice none 0 0] 132):=⟨_,rfl⟩;rw [<- B2];have B4:Below w1.heap.size w1 wB:=by rw [B2];exact DE.alloc DE.size _
   have AZ:=zn trivial (HS.out _ B4);obtain ⟨cb,An⟩:∃cb,cb=wD.heap.size:=⟨_,rfl⟩;have Ay:wB.heap[cb]? =some (.cells #[.int .i64 0, .int .u64 0, .slice none 0 0] 132 (0,0)):=by rw [B2,An];exact heap_alloc_new wD _
   have AN:w1.heap.size<=cb:=by rw [An];exact DE.size
   rw [<- An];refine hK.out _ _ ⟨trivial,fun _=> AZ.2⟩ ?_
   try simp only [Act.put,zSs]
   clear hK K' B2 An;obtain ⟨z0,z1,z2,zf⟩:=zbb Ay;have f0:=zf 0;have f1:=zf 1;have f2:=zf 2;refine zd (i:=13) ue rfl (fun K' hK=> ?_);go_simp;refine hK.out _ _ ⟨trivial,fun h=> absurd h uf⟩ ?_
   try simp only [Act.put,zSs]
   clear hK K' AZ;have Ad:=zlT Ay (.int .i64 v0) (.int .u64 (sc:Int)) (.slice ua un uc);have Au:=zaq (show Below w1.heap.size w1 wB from B4) AN (.int .i64 v0) (.int .u64 (sc:Int)) (.slice ua un uc);generalize World.setCell _ (⟨cb,2,none⟩:Addr) _=wC at *;clear z0 z1 z2 zf f0 f1 f2;refine tL 14 (d:=some 11) trivial ?_;refine zI ue ?_ _;go_wp2_with fail
   go_meet
   case rel=>
        exact ⟨cb,v0,ua,un,uc,rfl,rfl,Au,Ad⟩
  go_simp;obtain ⟨wA,BR⟩:∃wX,wX=(w1.alloc (.cells #[.int .i64 0, .int .u64 0, .slice none 0 0] 132)).drew:=⟨_,rfl⟩;rw [<- BR];have BI:Below w1.heap.size w1 wA:=by rw [BR];exact ((Below.refl w1.heap.size w1).alloc zl _).drew
  have AZ:=zn trivial (HS.out _ BI);obtain ⟨cb,An⟩:∃cb,cb=w1.heap.size:=⟨_,rfl⟩;have Ay:wA.heap[cb]? =some (.cells #[.int .i64 0, .int .u64 0, .slice none 0 0] 132 (0,0)):=by rw [BR,An];exact heap_alloc_new w1 _
  have AN:w1.heap.size<=cb:=by rw [An];exact zl
  rw [<- An];refine hK.out _ _ ⟨trivial,fun _=> AZ.2⟩ ?_
  try simp only [Act.put,zSs]
  clear hK K' BR An;refine zd (i:=8) ue rfl (fun K' hK=> ?_);refine zA (o:=⟨some 53,_,_,_,_,_⟩) ue 144 Tryz.func144 ue rfl _ _ rfl #[.agg #[.int .i64 (st.c.nv:Int), .int .i64 (st.c.ng:Int), .int .i64 (st.c.nb:Int), .int .u64 (st.c.fl:Int), .slice h.va st.c.vols.length h.vc, .slice h.ga st.c.groups.length h.gc, .slice h.ba st.c.books.length h.bc, .slice h.ka st.c.kept.length h.kc, .slice h.ta st.c.times.length h.tc], .int .i64 o.i, .int .i64 o.v] ug (HD.out _ BI) ?_;rintro r wB ⟨v0,ua,un,uc,rfl,As⟩;refine ⟨_,rfl, ?_⟩;have CN:=As;have B4:Below w1.heap.size w1 wB:=BI.trans (As.mono BI.size);have AZ:=zn trivial (HS.out _ B4);refine hK.out _ _ ⟨trivial,fun _=> AZ.2⟩ ?_
  try simp only [Act.put,zSs]
  clear hK K' BI;have Ay:=(CN.block cb (zg Ay).1).trans Ay;obtain ⟨z0,z1,z2,zf⟩:=zbb Ay;have f0:=zf 0;have f1:=zf 1;have f2:=zf 2;refine tL 9 (d:=some 44) trivial ?_;refine tL 10 (d:=some 54) trivial ?_;refine tL 11 (d:=some 55) trivial ?_;refine zd (i:=13) ue rfl (fun K' hK=> ?_);go_simp;refine hK.out _ _ ⟨trivial,fun h=> absurd h uf⟩ ?_
  try simp only [Act.put,zSs]
  clear hK K' AZ;have Ad:=zlT Ay (.int .i64 v0) (.int .u64 (sc:Int)) (.slice ua un uc);have Au:=zaq (show Below w1.heap.size w1 wB from B4) AN (.int .i64 v0) (.int .u64 (sc:Int)) (.slice ua un uc);generalize World.setCell _ (⟨cb,2,none⟩:Addr) _=wC at *;clear z0 z1 z2 zf f0 f1 f2;refine tL 14 (d:=some 11) trivial ?_;refine zI ue ?_ _;go_wp2_with fail
  go_meet
  case rel=>
       exact ⟨cb,v0,ua,un,uc,rfl,rfl,Au,Ad⟩
 case rest=>
  obtain ⟨cb,v0,ua,un,uc,rfl,rfl,As,Ay⟩:=hcut;rename World=> wc;obtain ⟨z0,z1,z2,zf⟩:=zbb Ay;have Ap:=zh (Ak.out.trans (As.mono Ak.out.size));clear As Ay zf;go_wp2_with fail;go_ret2;exact ⟨rfl,Ap.out⟩
theorem zlq {w:World} {p:Nat} {h:Ch} {a:StA} {cf:Cfg} {st:PS} {nb k:Nat} {Q:Nat->Prop} {o:PO} {da:Option Addr} {dn dc:Nat} {ma:Option Addr} {mn mc:Nat} (H:StW w p h a cf st nb k Q) (Ew:0<=o.pt/\o.pt < 18446744073709551616) (hk:o.k=11):
 Calls Tryz.prog 105 #[.pointer (some ⟨p,0,none⟩), .agg (opA o da dn dc ma mn mc)] w fun e w'=> e= .returned (.tuple #[.int .u64 ((zav st.c o).2:Nat), .int .i64 ((zav st.c o).1:Nat)])/\Below w.heap.size w w':=by
 have HK:=zh hk;have GN:((o.pt.toNat:Nat):Int)=o.pt:=ud;obtain ⟨fx,GD⟩:∃fx,fx=h.vl.find? (fun x=> decide ((x.v.id:Int)=o.v)):=⟨_,rfl⟩;have kx:(st.c.find o.v).isSome=fx.isSome:=by rw [zhC H.cat o.v,<- GD,Option.isSome_map]
 have Li:=zh (zm1 st.c o hk kx);obtain ⟨n0,n1,ua,un,uc,Zs⟩:=zoA fx;obtain ⟨bs,Mm⟩:∃bs,fx.isSome=bs:=⟨_,rfl⟩;rw [Mm] at Li;obtain ⟨w1,Ab⟩:∃w1,w1=w.alloc (.cells (opA o da dn dc ma mn mc) 40):=⟨_,rfl⟩;have Aa:Below w.heap.size w w1:=by rw [Ab];exact zr.alloc zl _
 have hX:w1.heap[w.heap.size]? =some (.cells (opA o da dn dc ma mn mc) 40 (0,0)):=by rw [Ab];exact heap_alloc_new w _
 have H1:=zh (H.below Aa);have Ak:=zh Aa;have CI:=(zg hX).1;have AU:=zh (fun (W:World) (hW:Below w1.heap.size w1 W)=> (hW.block w.heap.size CI).trans hX);have Al:=zh (fun (W:World) (hW:Below w1.heap.size w1 W)=> (H1.out.below hW).reads);obtain ⟨s0,s1,s2,s3,s4,s5,s6,s7,s8,s9,s10,s11,s12,s13,s14,s15,s16,s17,s18,s19,-⟩:=H1.out.reads;obtain ⟨o0,o1,o2,o3,o4,o5,o6,o7⟩:=rd8 (w:=w1) hX;clear H Aa hX CI;replace o0:=show w1.cell? ⟨w.heap.size,0,none⟩=some (.int .i64 o.k) from o0;rw [HK.out] at o0;have HD:=zh (fun (W:World) (hW:Below w1.heap.size w1 W)=> zc2 (H1.out.cat.below hW) (by have:=H1.out.inv.ct.vlen;omega) o.v)
 have Qu:=zh (fun (W:World) (hW:Below w1.heap.size w1 W)=> zkm (c:=h.tc) (H1.out.cat.below hW).times.row (by have:=H1.out.inv.ct.times.len;omega) (H1.out.inv.ct.times.rise.imp fun h=> h.2) o.pt.toNat)
 simp only [GN] at Qu;rw [<- GD] at HD;unfold Ch.val Ch.cells at HD;clear hk kx;unfold opA at *;go_in;go_upto_region 1 with fail;rw [<- Ab];clear Ab;go_upto_region 3 with fail;have HS:=zh (fun (W:World) (hW:Below w1.heap.size w1 W)=> show W.cell? ⟨p,0,none⟩=some (.int .i64 (st.c.nv:Int))/\W.cell? ⟨p,1,none⟩=some (.int .i64 (st.c.ng:Int))/\W.cell? ⟨p,2,none⟩=some (.int .i64 (st.c.nb:Int))/\W.cell? ⟨p,3,none⟩=some (.int .u64 (st.c.fl:Int))/\W.cell? ⟨p,4,none⟩=some (.slice h.va st.c.vols.length h.vc)/\W.cell? ⟨p,5,none⟩=some (.slice h.ga st.c.groups.length h.gc)/\W.cell? ⟨p,6,none⟩=some (.slice h.ba st.c.books.length h.bc)/\W.cell? ⟨p,7,none⟩=some (.slice h.ka st.c.kept.length h.kc)/\W.cell? ⟨p,8,none⟩=some (.slice h.ta st.c.times.length h.tc)/\W.cell? ⟨w.heap.size,1,none⟩=some (.int .i64 o.v) from ⟨(Al.out W (hW)).1,(Al.out W (hW)).2.1,(Al.out W (hW)).2.2.1,(Al.out W (hW)).2.2.2.1,(Al.out W (hW)).2.2.2.2.1,(Al.out W (hW)).2.2.2.2.2.1,(Al.out W (hW)).2.2.2.2.2.2.1,(Al.out W (hW)).2.2.2.2.2.2.2.1,(Al.out W (hW)).2.2.2.2.2.2.2.2.1,cell_of_row W _ 1 _ _ _ (AU.out W (hW))⟩)
 go_cut [6,7] from 16 to 25 (fun u6 u7 wx=> ∃(cb:Nat),u6= .pointer (some ⟨cb,0,none⟩)/\u7= .bool bs/\Below w1.heap.size w1 wx)
 case first=>
  have Cs:Below w1.heap.size w1 w1.drew:=zr.drew;have Av:=zn trivial (HS.out _ Cs);refine zy ue [0,1,2,4,7,8,9,11,12] (fun _=> True) (fun W=> W.cell? ⟨p,0,none⟩=some (.int .i64 (st.c.nv:Int))/\W.cell? ⟨p,1,none⟩=some (.int .i64 (st.c.ng:Int))/\W.cell? ⟨p,2,none⟩=some (.int .i64 (st.c.nb:Int))/\W.cell? ⟨p,3,none⟩=some (.int .u64 (st.c.fl:Int))/\W.cell? ⟨p,4,none⟩=some (.slice h.va st.c.vols.length h.vc)/\W.cell? ⟨p,5,none⟩=some (.slice h.ga st.c.groups.length h.gc)/\W.cell? ⟨p,6,none⟩=some (.slice h.ba st.c.books.length h.bc)/\W.cell? ⟨p,7,none⟩=some (.slice h.ka st.c.kept.length h.kc)/\W.cell? ⟨p,8,none⟩=some (.slice h.ta st.c.times.length h.tc)/\W.cell? ⟨w.heap.size,1,none⟩=some (.int .i64 o.v)) ?_;refine tL 0 (d:=some 17) trivial ?_;refine tL 1 (d:=some 18) trivial ?_;refine tL 2 (d:=some 19) trivial ?_;refine tL 4 (d:=some 21) trivial ?_;refine tS 3 (d:=some 20) Av ?_;refine tS 5 (d:=some 22) Av ?_;refine zbq (i:=6) (i':=10) ue rfl rfl (fun K' hK=> ?_) (fun K' hK=> ?_)
  ·refine zA (o:=⟨some 23,_,_,_,_,_⟩) ue 38 Tryz.func38 ue rfl _ _ rfl #[.agg #[.int .i64 (st.c.nv:Int), .int .i64 (st.c.ng:Int), .int .i64 (st.c.nb:Int), .int .u64 (st.c.fl:Int), .slice h.va st.c.vols.length h.vc, .slice h.ga st.c.groups.length h.gc, .slice h.ba st.c.books.length h.bc, .slice h.ka st.c.kept.length h.kc, .slice h.ta st.c.times.length h.tc], .int .i64 o.v] ug (HD.out _ Cs) ?_;rintro r wD ⟨⟨x9,IQ,rfl⟩,As⟩;rw [IQ,Zs,Mm];refine ⟨_,rfl, ?_⟩;have CN:=As;have DE:Below w1.heap.size w1 wD:=Cs.trans (As.mono Cs.size);have AZ:=zn trivial (HS.out _ DE);refine hK.out _ _ ⟨trivial,fun _=> AZ.2⟩ ?_
   try simp only [Act.put,zSs]
   clear hK K';refine tL 7 (d:=some 16) trivial ?_;refine tL 8 (d:=some 24) trivial ?_;refine tL 9 (d:=some 25) trivial ?_;refine zd (i:=10) ue rfl (fun K' hK=> ?_);go_simp;obtain ⟨wB,B2⟩:∃wX,wX=wD.alloc (.cells #[.int .i64 0, .int .u64 0, .slice none 0 0] 86):=⟨_,rfl⟩;rw [<- B2];have B4:Below w1.heap.size w1 wB:=by rw [B2];exact DE.alloc DE.size _
   have AZ:=zn trivial (HS.out _ B4);obtain ⟨cb,An⟩:∃cb,cb=wD.heap.size:=⟨_,rfl⟩;have Ay:wB.heap[cb]? =some (.cells #[.int .i64 0, .int .u64 0, .slice none 0 0] 86 (0,0)):=by rw [B2,An];exact heap_alloc_new wD _
   have AN:w1.heap.size<=cb:=by rw [An];exact DE.size
   rw [<- An];refine hK.out _ _ ⟨trivial,fun _=> AZ.2⟩ ?_
   try simp only [Act.put,zSs]
   clear hK K' B2 An;obtain ⟨z0,z1,z2,zf⟩:=zbb Ay;have f0:=zf 0;have f1:=zf 1;have f2:=zf 2;refine zd (i:=11) ue rfl (fun K' hK=> ?_);go_simp;refine hK.out _ _ ⟨trivial,fun h=> absurd h uf⟩ ?_
   try simp only [Act.put,zSs]
   clear hK K' AZ;have Ad:=zlT Ay (.int .i64 n0) (.int .u64 n1) (.slice ua un uc);have Au:=zaq (show Below w1.heap.size w1 wB from B4) AN (.int .i64 n0) (.int .u64 n1) (.slice ua un uc);generalize World.setCell _ (⟨cb,2,none⟩:Addr) _=wC at *;clear z0 z1 z2 zf f0 f1 f2;refine tL 12 (d:=some 7) trivial ?_;refine zI ue ?_ _;go_wp2_with fail
   go_meet
   case rel=>
        exact ⟨cb,rfl,rfl,Au⟩
  go_simp;obtain ⟨wA,BR⟩:∃wX,wX=(w1.alloc (.cells #[.int .i64 0, .int .u64 0, .slice none 0 0] 86)).drew:=⟨_,rfl⟩;rw [<- BR];have BI:Below w1.heap.size w1 wA:=by rw [BR];exact ((Below.refl w1.heap.size w1).alloc zl _).drew
  have AZ:=zn trivial (HS.out _ BI);obtain ⟨cb,An⟩:∃cb,cb=w1.heap.size:=⟨_,rfl⟩;have Ay:wA.heap[cb]? =some (.cells #[.int .i64 0, .int .u64 0, .slice none 0 0] 86 (0,0)):=by rw [BR,An];exact heap_alloc_new w1 _
  have AN:w1.heap.size<=cb:=by rw [An];exact zl
  rw [<- An];refine hK.out _ _ ⟨trivial,fun _=> AZ.2⟩ ?_
  try simp only [Act.put,zSs]
  clear hK K' BR An;refine zd (i:=6) ue rfl (fun K' hK=> ?_);refine zA (o:=⟨some 23,_,_,_,_,_⟩) ue 38 Tryz.func38 ue rfl _ _ rfl #[.agg #[.int .i64 (st.c.nv:Int), .int .i64 (st.c.ng:Int), .int .i64 (st.c.nb:Int), .int .u64 (st.c.fl:Int), .slice h.va st.c.vols.length h.vc, .slice h.ga st.c.groups.length h.gc, .slice h.ba st.c.books.length h.bc, .slice h.ka st.c.kept.length h.kc, .slice h.ta st.c.times.length h.tc], .int .i64 o.v] ug (HD.out _ BI) ?_;rintro r wB ⟨⟨x9,IQ,rfl⟩,As⟩;rw [IQ,Zs,Mm];refine ⟨_,rfl, ?_⟩;have CN:=As;have B4:Below w1.heap.size w1 wB:=BI.trans (As.mono BI.size);have AZ:=zn trivial (HS.out _ B4);refine hK.out _ _ ⟨trivial,fun _=> AZ.2⟩ ?_
  try simp only [Act.put,zSs]
  clear hK K' BI;have Ay:=(CN.block cb (zg Ay).1).trans Ay;obtain ⟨z0,z1,z2,zf⟩:=zbb Ay;have f0:=zf 0;have f1:=zf 1;have f2:=zf 2;refine tL 7 (d:=some 16) trivial ?_;refine tL 8 (d:=some 24) trivial ?_;refine tL 9 (d:=some 25) trivial ?_;refine zd (i:=11) ue rfl (fun K' hK=> ?_);go_simp;refine hK.out _ _ ⟨trivial,fun h=> absurd h uf⟩ ?_
  try simp only [Act.put,zSs]
  clear hK K' AZ;have Ad:=zlT Ay (.int .i64 n0) (.int .u64 n1) (.slice ua un uc);have Au:=zaq (show Below w1.heap.size w1 wB from B4) AN (.int .i64 n0) (.int .u64 n1) (.slice ua un uc);generalize World.setCell _ (⟨cb,2,none⟩:Addr) _=wC at *;clear z0 z1 z2 zf f0 f1 f2;refine tL 12 (d:=some 7) trivial ?_;refine zI ue ?_ _;go_wp2_with fail
  go_meet
  case rel=>
       exact ⟨cb,rfl,rfl,Au⟩
 case rest=>
  obtain ⟨cb,rfl,rfl,As⟩:=hcut;rename World=> wc;have Ap:=zh (Ak.out.trans (As.mono Ak.out.size));clear HD HS Mm Zs GD s0 s1 s2 s3 s4 s5 s6 s7 s8 s9 s10 s11 s12 s13 s14 s15 s16 s17 s18 s19 o0 o1 o2 o3 o4 o5 o6 o7
  cases bs with
  | false=>
    go_wp2_with fail;go_ret2;rw [Li.out];exact ⟨rfl,Ap.out⟩
  | true=>
    have s8:=(Al.out wc As).2.2.2.2.2.2.2.2.1;have o5:=cell_of_row wc _ 5 _ _ _ (AU.out wc As);have Cu:Below wc.heap.size wc wc.drew:=zr.drew;have HT:=zh (Qu.out _ (As.drew));have Dt:=zh (fun (W:World) (hW:Below wc.heap.size wc W)=> show W.cell? ⟨p,8,none⟩=some (.slice h.ta st.c.times.length h.tc)/\W.cell? ⟨w.heap.size,5,none⟩=some (.int .u64 o.pt) from ⟨(Al.out W (As.trans (hW.mono As.size))).2.2.2.2.2.2.2.2.1,cell_of_row W _ 5 _ _ _ (AU.out W (As.trans (hW.mono As.size)))⟩);clear Qu As;go_wp2_with fail
    go_region_held3 (fun W=> W.cell? ⟨p,8,none⟩=some (.slice h.ta st.c.times.length h.tc)/\W.cell? ⟨w.heap.size,5,none⟩=some (.int .u64 o.pt)) (first | with_reducible exact Bg | go_keep)
        ((go_at_call 140;((with_reducible refine HT.out.mono ?_);rintro r w4 ⟨rfl,Ar⟩;have Ar:Below wc.heap.size wc w4:=Cu.trans Ar;have Bg:=Dt.out w4 Ar)))
    clear Bg s8 o5;have AI:=zh (Ap.out.trans (Ar.mono Ap.out.size));clear Ar
    cases JM:zjz st.c.times o.pt.toNat with
    | none=>
      have WI:=zh JM;clear JM
      dsimp only [Option.isSome,Option.getD]
      go_wp2_with fail;go_ret2;rw [Li.out,WI.out];exact ⟨rfl,AI.out⟩
    | some n9=>
      have WI:=zh JM;clear JM
      dsimp only [Option.isSome,Option.getD]
      go_wp2_with fail;go_ret2;rw [Li.out,WI.out];exact ⟨rfl,AI.out⟩
theorem zm2 {w:World} {p:Nat} {h:Ch} {a:StA} {cf:Cfg} {st:PS} {nb k:Nat} {Q:Nat->Prop} {o:PO} {da:Option Addr} {dn dc:Nat} {ma:Option Addr} {mn mc:Nat} (H:StW w p h a cf st nb k Q) (Ew:0<=o.pt/\o.pt < 18446744073709551616):
 Calls Tryz.prog 105 #[.pointer (some ⟨p,0,none⟩), .agg (opA o da dn dc ma mn mc)] w fun e w'=> e= .returned (.tuple #[.int .u64 ((zav st.c o).2:Nat), .int .i64 ((zav st.c o).1:Nat)])/\Below w.heap.size w w':=by
 by_cases h1:o.k=11
 ·exact zlq H Ew h1
 by_cases h2:o.k=12
 ·exact zlo H Ew h2
 exact zlp H Ew ⟨h1,h2⟩
end
end Go.Proofs.YtaoceecfjlkmdaaGreat
