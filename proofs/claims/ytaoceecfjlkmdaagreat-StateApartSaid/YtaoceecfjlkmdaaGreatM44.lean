/- Lemmas of the walks, merged and pressed by press.py. Conditions: those of each theorem. -/
import Derived.Test.YtaoceecfjlkmdaaGreatM43
import Derived.Test.YtaoceecfjlkmdaaGreatM36
import Derived.Test.YtaoceecfjlkmdaaGreatM9
import Derived.Test.YtaoceecfjlkmdaaGreatM39
import Derived.Test.YtaoceecfjlkmdaaGreatM35
import Derived.Test.YtaoceecfjlkmdaaGreatM42
set_option maxRecDepth 100000
set_option maxHeartbeats 64000000
set_option linter.all false
namespace Go.Proofs.YtaoceecfjlkmdaaGreat
open Tryz
section
open Go.RowKit
def zo7 (ps:Int->List Nat) (fl:Nat) (x:Vl):Vl:={x with sizes:=za4 (ps x.id) fl x.sizes}
theorem znb (c:Ct) (now win every:Nat):c.retain now win every={c with fl:=c.floor now win,kept:=c.keep (c.floor now win) every,times:=zaZ ({c with fl:=c.floor now win,kept:=c.keep (c.floor now win) every}:Ct).allL (c.floor now win) c.times,vols:=c.vols.map (zo7 ({c with fl:=c.floor now win,kept:=c.keep (c.floor now win) every}:Ct).ofL (c.floor now win))}:=by unfold Ct.retain zo7;rfl
theorem CtI.mid' {c:Ct} {s k:Nat} (h:CtI c s k) (f:Nat) (K:List Nat) (hf:f<=s) (hk:∀x ∈ K,x<=s) (hl:K.length<=32):CtI {c with fl:=f,kept:=K} s k:=
 ⟨h.nv,h.ng,h.nb,hf,h.vols,h.ids,h.vlen,h.groups,h.gids,h.glen,h.books,h.bids,h.blen,hk,hl,h.times⟩
theorem CtI.mid {c:Ct} {s k:Nat} (h:CtI c s k) (now win every:Nat):CtI {c with fl:=c.floor now win,kept:=c.keep (c.floor now win) every} s k:=by
 have hf:=Ct.floor_le h now win;refine h.mid' _ _ hf.2 (fun x hx=> ?_) (Ct.keep_len _ _ _);rcases Ct.keep_mem hx with h1 | h1
 ·exact h.kept x h1
 omega
theorem zfW (tmps:Array Value) (B:Nat) (v0 v1 v2 v3 v4 v5 v6 v7 v8:Value) (W:World) (h:tmps[8]? =some (.pointer (some ⟨B,0,none⟩)))
 (q:W.cell? ⟨B,0,none⟩=some v0/\W.cell? ⟨B,1,none⟩=some v1/\W.cell? ⟨B,2,none⟩=some v2/\W.cell? ⟨B,3,none⟩=some v3/\W.cell? ⟨B,4,none⟩=some v4/\W.cell? ⟨B,5,none⟩=some v5/\W.cell? ⟨B,6,none⟩=some v6/\W.cell? ⟨B,7,none⟩=some v7/\W.cell? ⟨B,8,none⟩=some v8):
 (results Tryz.f61 tmps).run Tryz.prog W= .ok (.agg #[v0,v1,v2,v3,v4,v5,v6,v7,v8]) W:=by
 obtain ⟨q0,q1,q2,q3,q4,q5,q6,q7,q8⟩:=q;simp [results,Tryz.results61,go_sem,h,q0,q1,q2,q3,q4,q5,q6,q7,q8]
theorem zhp.any {base:Nat} {w:World} {v:Value} {L:List Nat} (h:zhp base w v L):∃a c ps,v= .slice a ps.length c/\(∀x,x ∈ ps↔x ∈ L)/\ps.length<=L.length/\zM zb0 1 w a ps.length ps:=by
 obtain ⟨a,c,ps,h1,h2,h3,h4,-⟩:=h;exact ⟨a,c,ps,h1,h3,h2,h4⟩
theorem zlz {Q:Nat->Prop} {w:World} {h:Ch} {c:Ct} {s0 k:Nat} (hc:zaV Q w h c) (hi:CtI c s0 k) (hQ:∀j,Q j->j < w.heap.size) (now win every:Nat) (KN:now < 18446744073709551616) (LA:s0 < 18446744073709551616) (CH:every < 18446744073709551616):
 Calls Tryz.prog 61 #[h.val c, .int .u64 (now:Int), .int .u64 (win:Int), .int .u64 (every:Int)] w fun e w'=> ∃h':Ch,e= .returned (h'.val (c.retain now win every))/\zaV Q w' h' (c.retain now win every)/\Below w.heap.size w w':=by
 obtain ⟨w1,Ab⟩:∃w1,w1=((w.alloc (.cells (h.cells c) 54)).alloc (.cells zcr 54)).alloc (.cells (h.cells c) 54):=⟨_,rfl⟩;have Aa:Below w.heap.size w w1:=by rw [Ab];exact ((zr.alloc zl _).alloc uh _).alloc uo _
 have Ai:w1.heap.size=w.heap.size+3:=by rw [Ab,World.alloc_size,World.alloc_size,World.alloc_size]
 have hX:w1.heap[w.heap.size]? =some (.cells (h.cells c) 54 (0,0)):=by rw [Ab,Below.heap_alloc _ _ _ uo,Below.heap_alloc _ _ _ uh];exact heap_alloc_new w _
 have hY:w1.heap[w.heap.size+1]? =some (.cells zcr 54 (0,0)):=by
  have:=heap_alloc_new (w.alloc (.cells (h.cells c) 54)) (.cells zcr 54);rw [World.alloc_size] at this;rw [Ab,Below.heap_alloc _ _ _ uh];exact this
 have hZ:w1.heap[w.heap.size+2]? =some (.cells (h.cells c) 54 (0,0)):=by
  have:=heap_alloc_new ((w.alloc (.cells (h.cells c) 54)).alloc (.cells zcr 54)) (.cells (h.cells c) 54);rw [World.alloc_size,World.alloc_size] at this;rw [Ab];exact this
 have HF:=zh (zkU (hc.below Aa) hi now win KN);have EP:=Ct.floor_le hi now win;have KW:=znb c now win every;have D8:=hi.mid now win every;obtain ⟨fl1,SV⟩:∃fl1,fl1=c.floor now win:=⟨_,rfl⟩;rw [<- SV] at HF EP KW D8;have hC:=zh (zn hc (zn hi hQ));have Ak:=zh (zn Aa (zn Ai (zn hX (zn hY hZ))));have Ri:=zh (zn EP (zn KW D8));obtain ⟨x0,x1,x2,x3,x4,x5,x6,x7,x8,-⟩:=zaf hX;obtain ⟨z0,z1,z2,z3,z4,z5,z6,z7,z8,zf⟩:=zaf hZ;have zf3:=zf 3;clear hc hi hQ Aa Ai hX hY hZ EP KW D8 SV zf;unfold Ch.val at *;unfold Ch.cells zcr at *;go_in;go_upto_region 2 with fail;rw [<- Ab];clear Ab;go_wp2_with fail;refine HF.out.mono ?_;rintro e w2 ⟨rfl,Ae⟩;have U5:=(Ae.block (w.heap.size+2) ui).trans Ak.out.2.2.2.2;have A7:=(Ae.block w.heap.size ui).trans Ak.out.2.2.1;have z3:=cell_of_row _ _ 3 _ _ _ U5;have zf3:w2.frozen? ⟨w.heap.size+2,3,none⟩=false:=by simp [World.frozen?,U5]
 obtain ⟨w3,Dv⟩:∃w3,w3=w2.setCell ⟨w.heap.size+2,3,none⟩ (.int .u64 (fl1:Int)):=⟨_,rfl⟩;have j6:w3.heap[w.heap.size+2]? =some (.cells #[.int .i64 (c.nv:Int), .int .i64 (c.ng:Int), .int .i64 (c.nb:Int), .int .u64 (fl1:Int), .slice h.va c.vols.length h.vc, .slice h.ga c.groups.length h.gc, .slice h.ba c.books.length h.bc, .slice h.ka c.kept.length h.kc, .slice h.ta c.times.length h.tc] 54 (0,0)):=by rw [Dv];exact heap_setCell_same _ _ 3 _ _ _ U5
 have A6:zD (fun j=> j=w.heap.size+2) w1 w3:=by rw [Dv];exact (zD.of_below Ae).trans (zD.turn (D:=fun j=> j=w.heap.size+2) (zq w2 ⟨w.heap.size+2,3,none⟩ _) rfl) fun _ h=> .inl h
 have Am:Below w.heap.size w w3:=⟨A6.os.trans Ak.out.1.os,A6.tape.trans Ak.out.1.tape,A6.output.trans Ak.out.1.output,zs Ak.out.1.size A6.size,fun j hj=> (A6.block j ui ud).trans (Ak.out.1.block j hj)⟩;have C0:=(A6.block w.heap.size ui ud).trans Ak.out.2.2.1;have HK:=zh (zmH (hC.out.1.below Am) hC.out.2.1 fl1 every (by have:=Ri.out.1;omega) CH)
 have H3:=zh (zn j6 (zn A6 (zn Am C0)));unfold Ch.val Ch.cells at HK;clear Ae U5 A7 j6 A6 Am C0 HF;go_upto_region 3 with fail;rw [<- Dv];clear Dv x0 x1 x2 x3 x4 x5 x6 x7 x8 z0 z1 z2 z3 z4 z5 z6 z7 z8 zf3;obtain ⟨x0,x1,x2,x3,x4,x5,x6,x7,x8,-⟩:=zJ H3.out.2.2.2;have z3:=cell_of_row _ _ 3 _ _ _ H3.out.1;go_wp2_with fail;refine HK.out.mono ?_;rintro e w4 ⟨v4,rfl,NM,Ar⟩;obtain ⟨ka,kc,rfl,Eu,ED⟩:=NM;obtain ⟨K,Xg⟩:∃K,K=c.keep fl1 every:=⟨_,rfl⟩;rw [<- Xg] at Eu ⊢;have KW:=Ri.out.2.1;have D8:=Ri.out.2.2;rw [<- Xg] at KW D8;have U6:=(Ar.block (w.heap.size+2) (zg H3.out.1).1).trans H3.out.1;have z7:=cell_of_row _ _ 7 _ _ _ U6;have zf7:w4.frozen? ⟨w.heap.size+2,7,none⟩=false:=by simp [World.frozen?,U6]
 obtain ⟨w5,Co⟩:∃w5,w5=w4.setCell ⟨w.heap.size+2,7,none⟩ (.slice ka K.length kc):=⟨_,rfl⟩;have FD:w5.heap[w.heap.size+2]? =some (.cells #[.int .i64 (c.nv:Int), .int .i64 (c.ng:Int), .int .i64 (c.nb:Int), .int .u64 (fl1:Int), .slice h.va c.vols.length h.vc, .slice h.ga c.groups.length h.gc, .slice h.ba c.books.length h.bc, .slice ka K.length kc, .slice h.ta c.times.length h.tc] 54 (0,0)):=by rw [Co];exact heap_setCell_same _ _ 7 _ _ _ U6
 have Bj:w4.grownBy w5 (some (w.heap.size+2)):=by rw [Co];exact zq w4 ⟨w.heap.size+2,7,none⟩ _
 have AV:zD (fun j=> j=w.heap.size+2) w1 w5:=(H3.out.2.1.trans (zD.of_below Ar) fun j (hj:j=w.heap.size+2)=> .inl hj).trans (zD.turn (D:=fun j=> j=w.heap.size+2) Bj rfl) fun _ h=> .inl h;have Ag:Below w.heap.size w w5:=⟨AV.os.trans Ak.out.1.os,AV.tape.trans Ak.out.1.tape,AV.output.trans Ak.out.1.output,zs Ak.out.1.size AV.size,fun j hj=> (AV.block j ui ud).trans (Ak.out.1.block j hj)⟩;have Cw:=(AV.block w.heap.size ui ud).trans Ak.out.2.2.1;have Fk:=(AV.block (w.heap.size+1) ui ud).trans Ak.out.2.2.2.1;have Oa:w.heap.size+3<=w3.heap.size:=by have:=H3.out.2.1.size;have:=Ak.out.2.1;omega
 have PC:zaM (fun j=> j=w.heap.size\/j=w.heap.size+1\/j=w.heap.size+2\/Q j) zb0 1 w5 ka K:=by
  have h0:zaM (fun j=> j < w3.heap.size) zb0 1 w4 ka K:=⟨Eu,fun b o hb _ hq=> by have:=ED b o hb;omega⟩
  have h1:=h0.outs zah uf (zD.of_grown Bj fun r hr=> .inl ubd) (Q':=fun j=> j < w3.heap.size) (fun _ h=> .inl h);exact h1.sub fun j hj=> by
   rcases hj with rfl | rfl | rfl | hj
   ·omega
   ·omega
   ·omega
   have:=hC.out.2.2 j hj;omega
 obtain ⟨c2,Bd⟩:∃c2:Ct,c2={c with fl:=fl1,kept:=K}:=⟨_,rfl⟩
 obtain ⟨h2,Pt⟩:∃h2:Ch,h2={h with ka:=ka,kc:=kc}:=⟨_,rfl⟩
 have Dc:=hC.out.1.below Ag;have Nt:zaV Q w5 h2 c2:=by
  rw [Bd,Pt];exact ⟨Dc.vols,Dc.volsE,Dc.groups,Dc.groupsE,Dc.books,Dc.booksE,PC.sub fun j hj=> .inr (.inr (.inr hj)),Dc.times⟩
 have N6:h2.val c2= .agg #[.int .i64 (c.nv:Int), .int .i64 (c.ng:Int), .int .i64 (c.nb:Int), .int .u64 (fl1:Int), .slice h.va c.vols.length h.vc, .slice h.ga c.groups.length h.gc, .slice h.ba c.books.length h.bc, .slice ka K.length kc, .slice h.ta c.times.length h.tc]:=by rw [Bd,Pt];rfl
 rw [<- Bd] at D8 KW;have Ve:Below w5.heap.size w5 w5.drew:=zr.drew;have HA:=zh (zlr (Nt.below Ve) D8);rw [N6] at HA;have HS:=zh (fun (W:World) (hW:Below w5.heap.size w5 W)=> show W.cell? ⟨w.heap.size,8,none⟩=some (.slice h.ta c.times.length h.tc)/\W.cell? ⟨w.heap.size+2,0,none⟩=some (.int .i64 (c.nv:Int))/\W.cell? ⟨w.heap.size+2,1,none⟩=some (.int .i64 (c.ng:Int))/\W.cell? ⟨w.heap.size+2,2,none⟩=some (.int .i64 (c.nb:Int))/\W.cell? ⟨w.heap.size+2,3,none⟩=some (.int .u64 (fl1:Int))/\W.cell? ⟨w.heap.size+2,4,none⟩=some (.slice h.va c.vols.length h.vc)/\W.cell? ⟨w.heap.size+2,5,none⟩=some (.slice h.ga c.groups.length h.gc)/\W.cell? ⟨w.heap.size+2,6,none⟩=some (.slice h.ba c.books.length h.bc)/\W.cell? ⟨w.heap.size+2,7,none⟩=some (.slice ka K.length kc)/\W.cell? ⟨w.heap.size+2,8,none⟩=some (.slice h.ta c.times.length h.tc) from ⟨cell_of_row _ _ 8 _ _ _ ((hW.block w.heap.size (zg Cw).1).trans Cw),cell_of_row _ _ 0 _ _ _ ((hW.block (w.heap.size+2) (zg FD).1).trans FD),cell_of_row _ _ 1 _ _ _ ((hW.block (w.heap.size+2) (zg FD).1).trans FD),cell_of_row _ _ 2 _ _ _ ((hW.block (w.heap.size+2) (zg FD).1).trans FD),cell_of_row _ _ 3 _ _ _ ((hW.block (w.heap.size+2) (zg FD).1).trans FD),cell_of_row _ _ 4 _ _ _ ((hW.block (w.heap.size+2) (zg FD).1).trans FD),cell_of_row _ _ 5 _ _ _ ((hW.block (w.heap.size+2) (zg FD).1).trans FD),cell_of_row _ _ 6 _ _ _ ((hW.block (w.heap.size+2) (zg FD).1).trans FD),cell_of_row _ _ 7 _ _ _ ((hW.block (w.heap.size+2) (zg FD).1).trans FD),cell_of_row _ _ 8 _ _ _ ((hW.block (w.heap.size+2) (zg FD).1).trans FD)⟩);have Qt:=zh (fun (W:World) (hW:Below w5.heap.size w5 W)=> Dc.times.row.below hW zl);have H5:=zh (zn FD (zn AV (zn Ag (zn Cw (zn Fk (zn PC (zn Dc Oa)))))));have H2:=zh (zn Bd (zn D8 KW));clear ED Eu Xg KW D8 U6 FD Bj AV Ag Cw Fk PC Dc Nt N6 Bd Ar HK;go_upto_region 4 with fail;rw [<- Co];clear Co x0 x1 x2 x3 x4 x5 x6 x7 x8 z3 z7 zf7;have Av:=zn trivial (HS.out _ Ve);refine zy ue [8] (fun _=> True) (fun W=> W.cell? ⟨w.heap.size,8,none⟩=some (.slice h.ta c.times.length h.tc)/\W.cell? ⟨w.heap.size+2,0,none⟩=some (.int .i64 (c.nv:Int))/\W.cell? ⟨w.heap.size+2,1,none⟩=some (.int .i64 (c.ng:Int))/\W.cell? ⟨w.heap.size+2,2,none⟩=some (.int .i64 (c.nb:Int))/\W.cell? ⟨w.heap.size+2,3,none⟩=some (.int .u64 (fl1:Int))/\W.cell? ⟨w.heap.size+2,4,none⟩=some (.slice h.va c.vols.length h.vc)/\W.cell? ⟨w.heap.size+2,5,none⟩=some (.slice h.ga c.groups.length h.gc)/\W.cell? ⟨w.heap.size+2,6,none⟩=some (.slice h.ba c.books.length h.bc)/\W.cell? ⟨w.heap.size+2,7,none⟩=some (.slice ka K.length kc)/\W.cell? ⟨w.heap.size+2,8,none⟩=some (.slice h.ta c.times.length h.tc)) ?_;refine tS 0 Av ?_;refine tS 1 Av ?_;refine tS 2 Av ?_;refine tS 4 Av ?_;refine tS 5 Av ?_;refine zd (i:=3) ue rfl (fun K' hK=> ?_);refine zA (o:=⟨some 27,_,_,_,_,_⟩) ue 103 Tryz.func103 ue rfl _ _ rfl #[.agg #[.int .i64 (c.nv:Int), .int .i64 (c.ng:Int), .int .i64 (c.nb:Int), .int .u64 (fl1:Int), .slice h.va c.vols.length h.vc, .slice h.ga c.groups.length h.gc, .slice h.ba c.books.length h.bc, .slice ka K.length kc, .slice h.ta c.times.length h.tc]] uA HA.out ?_;rintro r w6 ⟨v6,rfl,IF,AT⟩;refine ⟨v6,rfl, ?_⟩;have CM:Below w5.heap.size w5 w6:=Ve.trans AT;have Rj:=zn trivial (HS.out _ CM);obtain ⟨pa,pc,ps,rfl,GM,AQ,Fb⟩:=IF.any;have HP:=zh (zn GM (zn AQ CM));have Bq:c2.allL.length<=100:=by
  have h1:=H2.out.2.1.klen;have h2:=H2.out.2.1.blen;unfold Ct.allL;rw [List.length_append,List.length_map]
  omega
 have Qu:=zh (zlL (c:=h.tc) (Qt.out _ CM) (by have:=hC.out.2.1.times.len;omega) (c2:=pc) Fb ud fl1)
 refine hK.out _ _ ⟨trivial,fun _=> Rj.2⟩ ?_
 try simp only [Act.put,zSs]
 clear hK K' HA Av IF AT CM GM AQ Fb Bq Qt Ve;refine zd (i:=6) ue rfl (fun K' hK=> ?_);refine zA (o:=⟨some 30,_,_,_,_,_⟩) ue 102 Tryz.func102 ue rfl _ _ rfl #[.slice h.ta c.times.length h.tc, .slice pa ps.length pc, .int .u64 (fl1:Int)] uA Qu.out ?_;rintro r w7 ⟨v7,rfl,FY,B1⟩;refine ⟨v7,rfl, ?_⟩;have EM:Below w5.heap.size w5 w7:=HP.out.2.2.trans (B1.mono HP.out.2.2.size);have Oh:=zn trivial (HS.out _ EM);obtain ⟨ta,tc,rfl,Zp,-,Qa⟩:=FY.row zR;obtain ⟨TM,QK⟩:∃TM,TM=zaZ ps fl1 c.times:=⟨_,rfl⟩;rw [<- QK] at Zp ⊢;have R7:TM=zaZ c2.allL fl1 c.times:=by rw [QK];exact zim HP.out.1 fl1 _
 have U7:=(EM.block (w.heap.size+2) (zg H5.out.1).1).trans H5.out.1;have z8:=cell_of_row _ _ 8 _ _ _ U7;have zf8:w7.frozen? ⟨w.heap.size+2,8,none⟩=false:=by simp [World.frozen?,U7]
 refine hK.out _ _ ⟨trivial,fun _=> Oh.2⟩ ?_
 try simp only [Act.put,zSs]
 have Nr:=(EM.block w.heap.size (zg H5.out.2.2.2.1).1).trans H5.out.2.2.2.1;have jZ:=(EM.block (w.heap.size+1) (zg H5.out.2.2.2.2.1).1).trans H5.out.2.2.2.2.1;have H7:=zh (zn Zp (zn Qa (zn R7 (zn EM (zn U7 (zn Nr (zn jZ HP.out.2.2.size)))))));clear hK K' Rj HP Qu FY B1 EM Zp Qa QK R7 U7 HS Nr jZ;refine tS 7 Oh ?_;clear Oh;refine zd (i:=8) ue rfl (fun K' hK=> ?_);go_simp;refine hK.out _ _ ⟨trivial,fun h=> absurd h uf⟩ ?_;clear hK K';refine zI ue ?_ _;obtain ⟨w9,Q6⟩:∃w9,w9=(w7.setCell ⟨w.heap.size+2,8,none⟩ (.slice ta TM.length tc)).setCell ⟨w.heap.size+2,4,none⟩ (.slice none 0 0):=⟨_,rfl⟩;have Me:=heap_setCell_same w7 (w.heap.size+2) 8 _ _ (.slice ta TM.length tc) H7.out.2.2.2.2.1;have z4:=cell_of_row _ _ 4 _ _ _ Me;have zf4:(w7.setCell ⟨w.heap.size+2,8,none⟩ (.slice ta TM.length tc)).frozen? ⟨w.heap.size+2,4,none⟩=false:=by simp [World.frozen?,Me]
 have j7:w9.heap[w.heap.size+2]? =some (.cells #[.int .i64 (c.nv:Int), .int .i64 (c.ng:Int), .int .i64 (c.nb:Int), .int .u64 (fl1:Int), .slice none 0 0, .slice h.ga c.groups.length h.gc, .slice h.ba c.books.length h.bc, .slice ka K.length kc, .slice ta TM.length tc] 54 (0,0)):=by rw [Q6];exact heap_setCell_same _ _ 4 _ _ _ Me
 have GF:w7.grownBy w9 (some (w.heap.size+2)):=by rw [Q6];exact (zq w7 ⟨w.heap.size+2,8,none⟩ _).trans (zq _ ⟨w.heap.size+2,4,none⟩ _)
 have Xw:=(GF.block w.heap.size (zg H7.out.2.2.2.2.2.1).1 uh).trans H7.out.2.2.2.2.2.1;have j5:=(GF.block (w.heap.size+1) (zg H7.out.2.2.2.2.2.2.1).1 uh).trans H7.out.2.2.2.2.2.2.1;have Z6:=H7.out.2.2.2.1;have Lw:zD (fun j=> j=w.heap.size+2) w5 w9:=(zD.of_below Z6).trans (zD.turn (D:=fun j=> j=w.heap.size+2) GF rfl) fun _ h=> .inl h;have Ja:Below w.heap.size w w9:=⟨Lw.os.trans H5.out.2.2.1.os,Lw.tape.trans H5.out.2.2.1.tape,Lw.output.trans H5.out.2.2.1.output,zs H5.out.2.2.1.size Lw.size,fun j hj=> (Lw.block j (zt hj H5.out.2.2.1.size) ud).trans (H5.out.2.2.1.block j hj)⟩;have Uk:zaM (fun j=> j=w.heap.size\/j=w.heap.size+1\/j=w.heap.size+2\/Q j) zbZ 2 w9 ta TM:=by
  have h0:zaM (fun j=> j < w5.heap.size) zbZ 2 w7 ta TM:=⟨H7.out.1,fun b o hb _ hq=> by have:=(H7.out.2.1 b o hb).1;have:=H7.out.2.2.2.2.2.2.2;omega⟩
  have cH:w.heap.size+3<=w5.heap.size:=by have:=H5.out.2.1.size;have:=Ak.out.2.1;omega
  have h1:=h0.outs zR uf (zD.of_grown GF fun r hr=> .inl ubd) (Q':=fun j=> j < w5.heap.size) (fun _ h=> .inl h);exact h1.sub fun j hj=> by
   rcases hj with rfl | rfl | rfl | hj
   ·omega
   ·omega
   ·omega
   have:=hC.out.2.2 j hj;omega
 have Tl:zaM (fun j=> j=w.heap.size\/j=w.heap.size+1\/j=w.heap.size+2\/Q j) zb0 1 w9 ka K:=
  H5.out.2.2.2.2.2.1.outs zah uf (Lw.more fun j hj=> .inr (.inr (.inl hj))) fun _ h=> .inl h
 have FL:h.vl.length=c.vols.length:=by rw [<- hC.out.1.volsE,List.length_map]
 have H9:=zh (zn j7 (zn Xw (zn j5 (zn Ja (zn Uk (zn Tl (zn FL H7.out.2.2.1)))))));have x4:=cell_of_row _ _ 4 _ _ _ Xw;clear Me j7 GF Xw j5 Z6 Lw Ja Uk Tl FL H7;go_upto_region 6 with fail;rw [<- Q6];clear Q6 z8 zf8 z4 zf4;generalize hn:c.vols.length=n at *;have Ez:=zh hn;have aD:n<=8:=by rw [<- hn];exact hC.out.2.1.vlen
 clear hn;go_wp2_with fail
 go_loopw [36] (fun u wr=> ∃(i:Nat) (l':List Vh) (va:Option Addr) (vc:Nat),i<=n/\u= .int .i64 i/\wr.heap[w.heap.size+2]? =some (.cells #[.int .i64 (c.nv:Int), .int .i64 (c.ng:Int), .int .i64 (c.nb:Int), .int .u64 (fl1:Int), .slice va l'.length vc, .slice h.ga c.groups.length h.gc, .slice h.ba c.books.length h.bc, .slice ka K.length kc, .slice ta TM.length tc] 54 (0,0))/\zfK zeK 3 zbZ 2 Vh.a (fun x=> x.v.sizes) 86 w9.heap.size wr (.slice va l'.length vc) l'/\l'.map Vh.v=(c.vols.take i).map (zo7 c2.ofL fl1)/\zD (fun j=> j=w.heap.size+2) w9 wr) (fun u _=> n - (intOf u).toNat)
 case atStart=> exact ⟨0, [],none,0,ud,rfl,H9.out.1,⟨World.ownsRow_nil _ _ _ _,uh⟩,uh,zD.refl _ _⟩
 case round=>
  obtain ⟨i,l',va,vc,hi,rfl,QN,hH,hE,ho⟩:=hrel;have AA:Below w.heap.size w wr:=⟨ho.os.trans H9.out.2.2.2.1.os,ho.tape.trans H9.out.2.2.2.1.tape,ho.output.trans H9.out.2.2.2.1.output,zs H9.out.2.2.2.1.size ho.size,fun j hj=> (ho.block j (zt hj H9.out.2.2.2.1.size) ud).trans (H9.out.2.2.2.1.block j hj)⟩;have HR:=zh (zn QN (zn hH (zn hE (zn ho AA))))
  by_cases hlt:i < n
  ·have Bb:(i:Int) < (n:Int):=ud;have AD:(0:Int)<=(i:Int):=ud;obtain ⟨x,hx⟩:∃x,h.vl[i]? =some x:=⟨_,ze (by have:=H9.out.2.2.2.2.2.2.1;have:=Ez.out;omega)⟩
   have BM:=hC.out.1.below AA;obtain ⟨b,o,FE,H8⟩:=BM.vols.row.row.2 i x hx;have p0:=H8 0 _ rfl;have p1:=H8 1 _ rfl;have p2:=H8 2 _ rfl;simp only [Nat.add_zero] at p0;have AP:=BM.vols.sub x (zm hx);obtain ⟨wv,Hb⟩:∃wv,wv=wr.alloc (.cells #[.int .i64 (x.v.id:Int), .int .u64 (x.v.born:Int), .slice x.a x.v.sizes.length x.c] 86):=⟨_,rfl⟩;have JG:Below wr.heap.size wr wv:=by rw [Hb];exact zr.alloc zl _
   have qh:wv.heap.size=wr.heap.size+1:=by rw [Hb,World.alloc_size]
   have U4:wv.heap[wr.heap.size]? =some (.cells #[.int .i64 (x.v.id:Int), .int .u64 (x.v.born:Int), .slice x.a x.v.sizes.length x.c] 86 (0,0)):=by rw [Hb];exact heap_alloc_new wr _
   have Xk:w.heap.size+2 < wr.heap.size:=(zg QN).1;have Kg:=(JG.block (w.heap.size+2) Xk).trans QN
   -- the catalog that is being made
   obtain ⟨c3,G4⟩:∃c3:Ct,c3={c2 with vols:=(c.vols.take i).map (zo7 c2.ofL fl1),times:=TM}:=⟨_,rfl⟩
   obtain ⟨h3,Yk⟩:∃h3:Ch,h3={h with ka:=ka,kc:=kc,va:=va,vc:=vc,vl:=l',ta:=ta,tc:=tc}:=⟨_,rfl⟩
   have D8:=H2.out.2.1;obtain ⟨e1,e2,e3,e4,e5,e6,e7⟩:c2.nv=c.nv/\c2.ng=c.ng/\c2.nb=c.nb/\c2.fl=fl1/\c2.groups=c.groups/\c2.books=c.books/\c2.kept=K:=by rw [H2.out.1];exact ⟨rfl,rfl,rfl,rfl,rfl,rfl,rfl⟩
   have KB:l'.length=((c.vols.take i).map (zo7 c2.ofL fl1)).length:=by rw [<- hE,List.length_map]
   have Nu:zaV (fun _=> False) wr h3 c3:=by
        obtain ⟨va',vc',Gj,JN,-,qm⟩:=hH.row.row zai;simp only [Value.slice.injEq] at Gj;obtain ⟨rfl,-,rfl⟩:=Gj;rw [G4,Yk];refine ⟨⟨⟨by show zM zeK 3 wr va l'.length l';exact JN,fun _ _ _ _ h=> h⟩,fun y hy=> ((hH.sub y hy).sub fun _ h=> h.elim)⟩,hE,⟨⟨BM.groups.row.row,fun _ _ _ _ h=> h⟩,fun y hy=> (BM.groups.sub y hy).sub fun _ h=> h.elim⟩,BM.groupsE.trans e5.symm,⟨⟨BM.books.row.row,fun _ _ _ _ h=> h⟩,fun y hy=> (BM.books.sub y hy).sub fun _ h=> h.elim⟩,BM.booksE.trans e6.symm, ?_, ?_⟩
        ·show zaM _ zb0 1 wr ka c2.kept
         rw [e7];exact (H9.out.2.2.2.2.2.1.outs zah uf (ho.more fun j hj=> .inr (.inr (.inl hj))) fun _ h=> .inl h).sub fun _ h=> h.elim
        exact (H9.out.2.2.2.2.1.outs zR uf (ho.more fun j hj=> .inr (.inr (.inl hj))) fun _ h=> .inl h).sub fun _ h=> h.elim
   have TO:c3.ofL=c2.ofL:=by rw [G4];rfl
   have Tg:=D8.klen;have Sn:=D8.blen;have FC:=zh (fun (W:World) (hW:Below wr.heap.size wr W)=> zgr (Nu.below hW) (by rw [G4];exact Tg) (by rw [G4];exact Sn) (fun b hb=> by rw [G4] at hb;simp only [e6] at hb;exact (hC.out.2.1.books b hb).2.2.len) (x.v.id:Int))
   have N7:h3.val c3= .agg #[.int .i64 (c.nv:Int), .int .i64 (c.ng:Int), .int .i64 (c.nb:Int), .int .u64 (fl1:Int), .slice va l'.length vc, .slice h.ga c.groups.length h.gc, .slice h.ba c.books.length h.bc, .slice ka K.length kc, .slice ta TM.length tc]:=by rw [G4,Yk];unfold Ch.val Ch.cells;simp only [KB,e1,e2,e3,e4,e5,e6,e7]
   rw [N7,TO] at FC;have HS:=zh (fun (W:World) (hW:Below wv.heap.size wv W)=> show W.cell? ⟨wr.heap.size,0,none⟩=some (.int .i64 (x.v.id:Int))/\W.cell? ⟨wr.heap.size,2,none⟩=some (.slice x.a x.v.sizes.length x.c)/\W.cell? ⟨w.heap.size+2,0,none⟩=some (.int .i64 (c.nv:Int))/\W.cell? ⟨w.heap.size+2,1,none⟩=some (.int .i64 (c.ng:Int))/\W.cell? ⟨w.heap.size+2,2,none⟩=some (.int .i64 (c.nb:Int))/\W.cell? ⟨w.heap.size+2,3,none⟩=some (.int .u64 (fl1:Int))/\W.cell? ⟨w.heap.size+2,4,none⟩=some (.slice va l'.length vc)/\W.cell? ⟨w.heap.size+2,5,none⟩=some (.slice h.ga c.groups.length h.gc)/\W.cell? ⟨w.heap.size+2,6,none⟩=some (.slice h.ba c.books.length h.bc)/\W.cell? ⟨w.heap.size+2,7,none⟩=some (.slice ka K.length kc)/\W.cell? ⟨w.heap.size+2,8,none⟩=some (.slice ta TM.length tc) from ⟨cell_of_row _ _ 0 _ _ _ ((hW.block wr.heap.size ud).trans U4),cell_of_row _ _ 2 _ _ _ ((hW.block wr.heap.size ud).trans U4),cell_of_row _ _ 0 _ _ _ ((hW.block (w.heap.size+2) ud).trans Kg),cell_of_row _ _ 1 _ _ _ ((hW.block (w.heap.size+2) ud).trans Kg),cell_of_row _ _ 2 _ _ _ ((hW.block (w.heap.size+2) ud).trans Kg),cell_of_row _ _ 3 _ _ _ ((hW.block (w.heap.size+2) ud).trans Kg),cell_of_row _ _ 4 _ _ _ ((hW.block (w.heap.size+2) ud).trans Kg),cell_of_row _ _ 5 _ _ _ ((hW.block (w.heap.size+2) ud).trans Kg),cell_of_row _ _ 6 _ _ _ ((hW.block (w.heap.size+2) ud).trans Kg),cell_of_row _ _ 7 _ _ _ ((hW.block (w.heap.size+2) ud).trans Kg),cell_of_row _ _ 8 _ _ _ ((hW.block (w.heap.size+2) ud).trans Kg)⟩);have AR:=(hC.out.2.1.vols x.v (by rw [<- hC.out.1.volsE];exact List.mem_map.2 ⟨x,zm hx,rfl⟩)).sizes.len
   have ZW:=zh (fun (W:World) (hW:Below wr.heap.size wr W)=> AP.row.below hW zl);have MZ:c.vols[i]? =some x.v:=by
        have h9:=congrArg (fun l=> l[i]?) hC.out.1.volsE;simp only [List.getElem?_map,hx,Option.map_some] at h9;exact h9.symm
   have HX:=zh (zn JG (zn qh (zn U4 (zn Kg (zn AR (zn MZ Xk))))));simp only [FE] at *;clear e1 e2 e3 e4 e5 e6 e7 QN hH hE ho AA hx BM H8 AP JG qh U4 Xk Kg G4 Yk D8 KB Nu TO Tg Sn N7 AR MZ;go_upto_region 9 with fail;rw [<- Hb];clear Hb p0 p1 p2;have Nx:Below wv.heap.size wv wv.drew:=zr.drew;have Av:=zn trivial (HS.out _ Nx);refine zy ue [10] (fun _=> True) (fun W=> W.cell? ⟨wr.heap.size,0,none⟩=some (.int .i64 (x.v.id:Int))/\W.cell? ⟨wr.heap.size,2,none⟩=some (.slice x.a x.v.sizes.length x.c)/\W.cell? ⟨w.heap.size+2,0,none⟩=some (.int .i64 (c.nv:Int))/\W.cell? ⟨w.heap.size+2,1,none⟩=some (.int .i64 (c.ng:Int))/\W.cell? ⟨w.heap.size+2,2,none⟩=some (.int .i64 (c.nb:Int))/\W.cell? ⟨w.heap.size+2,3,none⟩=some (.int .u64 (fl1:Int))/\W.cell? ⟨w.heap.size+2,4,none⟩=some (.slice va l'.length vc)/\W.cell? ⟨w.heap.size+2,5,none⟩=some (.slice h.ga c.groups.length h.gc)/\W.cell? ⟨w.heap.size+2,6,none⟩=some (.slice h.ba c.books.length h.bc)/\W.cell? ⟨w.heap.size+2,7,none⟩=some (.slice ka K.length kc)/\W.cell? ⟨w.heap.size+2,8,none⟩=some (.slice ta TM.length tc)) ?_;refine tS 0 Av ?_;refine tS 1 Av ?_;refine tS 2 Av ?_;refine tS 3 Av ?_;refine tS 4 Av ?_;refine tS 6 Av ?_;refine tS 7 Av ?_;have Sy:Below wr.heap.size wr wv.drew:=HX.out.1.trans (Nx.mono HX.out.1.size);refine zd (i:=5) ue rfl (fun K' hK=> ?_);refine zA (o:=⟨some 45,_,_,_,_,_⟩) ue 34 Tryz.func34 ue rfl _ _ rfl #[.agg #[.int .i64 (c.nv:Int), .int .i64 (c.ng:Int), .int .i64 (c.nb:Int), .int .u64 (fl1:Int), .slice va l'.length vc, .slice h.ga c.groups.length h.gc, .slice h.ba c.books.length h.bc, .slice ka K.length kc, .slice ta TM.length tc], .int .i64 (x.v.id:Int)] uA (FC.out _ Sy) ?_;rintro r w6 ⟨v6,rfl,IF,AT⟩;refine ⟨v6,rfl, ?_⟩;have Mo:Below wv.heap.size wv w6:=Nx.trans AT;have Rj:=zn trivial (HS.out _ Mo);obtain ⟨pa,pc,ps,rfl,GM,AQ,Fb⟩:=IF.any;have PZ:ps.length<=100:=by
        have h1:=H2.out.2.1.klen;have h2:=H2.out.2.1.blen;have h3:(c2.ofL (x.v.id:Int)).length<=c2.kept.length+c2.books.length:=by
         unfold Ct.ofL;rw [List.length_append,List.length_map];have:=List.length_filter_le (fun b:Bk=> decide ((x.v.id:Int) ∈ b.ms)) c2.books
         omega
        omega
   have HP:=zh (zn GM Mo);have ZX:=zh (zlH (c:=x.c) (ZW.out _ (HX.out.1.trans (Mo.mono HX.out.1.size))) (by have:=HX.out.2.2.2.2.1;omega) (c2:=pc) Fb ud fl1)
   refine hK.out _ _ ⟨trivial,fun _=> Rj.2⟩ ?_
   try simp only [Act.put,zSs]
   clear hK K' FC Av IF AT Mo GM AQ PZ Fb ZW Nx Sy;refine zd (i:=8) ue rfl (fun K' hK=> ?_);refine zA (o:=⟨some 48,_,_,_,_,_⟩) ue 104 Tryz.func104 ue rfl _ _ rfl #[.slice x.a x.v.sizes.length x.c, .slice pa ps.length pc, .int .u64 (fl1:Int)] uA ZX.out ?_;rintro r w7 ⟨v7,rfl,FY,B1⟩;refine ⟨v7,rfl, ?_⟩;have Mp:Below wv.heap.size wv w7:=HP.out.2.trans (B1.mono HP.out.2.size);have Oh:=zn trivial (HS.out _ Mp);obtain ⟨sa,sc,rfl,IO,-,IN⟩:=FY.row zR;obtain ⟨SZ,Xq⟩:∃SZ,SZ=za4 ps fl1 x.v.sizes:=⟨_,rfl⟩;rw [<- Xq] at IO ⊢;have R4:SZ=za4 (c2.ofL (x.v.id:Int)) fl1 x.v.sizes:=by rw [Xq];exact zeG HP.out.1 fl1 _
   have U2:=(Mp.block wr.heap.size (by have:=HX.out.2.1;omega)).trans HX.out.2.2.1
   have p2:=cell_of_row _ _ 2 _ _ _ U2;have pf2:w7.frozen? ⟨wr.heap.size,2,none⟩=false:=by simp [World.frozen?,U2]
   refine hK.out _ _ ⟨trivial,fun _=> Oh.2⟩ ?_
   try simp only [Act.put,zSs]
   have H7:=zh (zn IO (zn IN (zn R4 (zn Mp (zn U2 HP.out.2.size)))));clear hK K' Rj HP ZX FY B1 Mp IO IN Xq R4 U2 HS;refine tS 9 Oh ?_;clear Oh;refine zd (i:=10) ue rfl (fun K' hK=> ?_);go_simp;refine hK.out _ _ ⟨trivial,fun h=> absurd h uf⟩ ?_;clear hK K';refine zI ue ?_ _;obtain ⟨w8,VG⟩:∃w8,w8=w7.setCell ⟨wr.heap.size,2,none⟩ (.slice sa SZ.length sc):=⟨_,rfl⟩;have jU:w8.heap[wr.heap.size]? =some (.cells #[.int .i64 (x.v.id:Int), .int .u64 (x.v.born:Int), .slice sa SZ.length sc] 86 (0,0)):=by rw [VG];exact heap_setCell_same _ _ 2 _ _ _ H7.out.2.2.2.2.1
   have GE:w7.grownBy w8 (some wr.heap.size):=by rw [VG];exact zq w7 ⟨wr.heap.size,2,none⟩ _
   have Kl:Below wr.heap.size wr w8:=(HX.out.1.trans (H7.out.2.2.2.1.mono HX.out.1.size)).grown GE (by have:=H7.out.2.2.2.1.size;have:=HX.out.2.1;omega) (fun k hk=> by cases hk;exact zl)
   have Me:=(Kl.block (w.heap.size+2) HX.out.2.2.2.2.2.2).trans HR.out.1;have jl:=HR.out.2.1.below zR uf Kl;have N2:zaM (fun j=> j < w9.heap.size\/(Value.slice va l'.length vc).ownBlock=some j) zbZ 2 w8 sa SZ:=by
        have h0:zaM (fun j=> j < wr.heap.size+1) zbZ 2 w7 sa SZ:=⟨H7.out.1,fun b o hb _ hq=> by have:=(H7.out.2.1 b o hb).1;have:=H7.out.2.2.2.2.2;have:=HX.out.2.1;omega⟩
        have h1:=h0.outs zR uf (zD.of_grown GE (fun r hr=> .inl ubd)) (Q':=fun j=> j < wr.heap.size+1) (fun _ h=> .inl h);refine h1.sub fun j hj=> ?_;rcases hj with hj | hj
        ·have:=HR.out.2.2.2.1.size;omega
        have:=(HR.out.2.1.row.lt j hj).2;omega
   have KB:l'.length<=100000000:=by
        have h1:=congrArg List.length HR.out.2.2.1;rw [List.length_map,List.length_map,List.length_take] at h1;have:=Ez.out;have:=hC.out.2.1.vlen
        omega
   have MX:w9.heap.size<=w8.heap.size:=zs HR.out.2.2.2.1.size Kl.size;obtain ⟨v7,w7',NV,I6,FH⟩:=jl.push zai uf zdH zR uf Tryz.underlying48 zhV rfl uf (⟨⟨x.v.id,x.v.born,SZ⟩,sa,sc⟩:Vh) N2 KB MX;have QA:(l'++ [(⟨⟨x.v.id,x.v.born,SZ⟩,sa,sc⟩:Vh)]).map Vh.v=(c.vols.take (i+1)).map (zo7 c2.ofL fl1):=by
        rw [List.take_add_one,HX.out.2.2.2.2.2.1,List.map_append,List.map_append,HR.out.2.2.1,H7.out.2.2.1];rfl
   have jG:(w.heap.size+2) < w8.heap.size:=(zg Me).1;have Nk:(Value.slice va l'.length vc).ownBlock≠some (w.heap.size+2):=fun e=> by have:=(HR.out.2.1.row.lt _ e).1;have:=(zg H9.out.1).1;omega
   have Md:=(FH.block (w.heap.size+2) jG (fun e=> Nk e.symm)).trans Me;obtain ⟨a7,n7,c7,rfl⟩:=I6.row.form;have QW:n7=(l'++ [(⟨⟨x.v.id,x.v.born,SZ⟩,sa,sc⟩:Vh)]).length:=by
        obtain ⟨a',c',e,-⟩:=I6.row.row zai
        cases e;rfl
   have z4:=cell_of_row _ _ 4 _ _ _ Md;have zf4:w7'.frozen? ⟨w.heap.size+2,4,none⟩=false:=by simp [World.frozen?,Md]
   have Sa:=heap_setCell_same w7' (w.heap.size+2) 4 _ _ (.slice a7 n7 c7) Md;have Fp:=zq w7' ⟨w.heap.size+2,4,none⟩ (.slice a7 n7 c7);have kX:zD (fun j=> j=w.heap.size+2) w9 (w7'.setCell ⟨w.heap.size+2,4,none⟩ (.slice a7 n7 c7)):=
        ((HR.out.2.2.2.1.trans (zD.of_below Kl) fun j (hj:j=w.heap.size+2)=> .inl hj).trans (zD.of_grown FH (D:=fun j=> w9.heap.size<=j) fun r hr=> .inl (HR.out.2.1.row.lt r hr).1) fun j hj=> .inr hj).trans (zD.turn (D:=fun j=> j=w.heap.size+2) Fp rfl) fun _ h=> .inl h
   have jm:zfK zeK 3 zbZ 2 Vh.a (fun x=> x.v.sizes) 86 w9.heap.size (w7'.setCell ⟨w.heap.size+2,4,none⟩ (.slice a7 n7 c7)) (.slice a7 n7 c7) (l'++ [(⟨⟨x.v.id,x.v.born,SZ⟩,sa,sc⟩:Vh)]):=by
        have yg:w.heap.size+2 < w9.heap.size:=(zg H9.out.1).1;refine ⟨zK.heap I6.row fun g hg=> Fp.block g (I6.row.lt g hg).2 fun e=> by have:=(I6.row.lt g hg).1;simp at e;omega,fun y hy=> ?_⟩
        exact (I6.sub y hy).outs zR uf ((zD.turn (D:=fun j=> j=w.heap.size+2) Fp rfl).more fun j hj=> .inl ud) fun _ h=> .inl h
   have HF:=zh (zn Sa (zn jm (zn QA (zn kX QW))));obtain ⟨p0,p1,p2,-⟩:=zbb jU;have z48:=cell_of_row _ _ 4 _ _ _ Me;unfold zeK at NV;clear jU GE Kl Me jl N2 KB MX I6 FH QA jG Nk Md QW Sa Fp kX jm;go_upto_region 10 with fail;rw [<- VG];clear VG pf2
   go_wp2_with (at_builtin;refine za rfl _ _ _ rfl NV ?_)
   go_roundw
   case rel=>
        obtain ⟨r1,r2,r3,r4,r5⟩:=HF.out;rw [r5] at r1 r2 r4 ⊢;exact ⟨i+1,_,a7,c7,ud,by go_num,r1,r2,r3,r4⟩
   case measure=> simp [intOf];omega
  obtain rfl:i=n:=ud;clear hlt;have O3:=(ho.block (w.heap.size+1) (zg H9.out.2.2.1).1 ud).trans H9.out.2.2.1;obtain ⟨z0,z1,z2,z3,z4,z5,z6,z7,z8,-⟩:=zJ QN;obtain ⟨y0,y1,y2,y3,y4,y5,y6,y7,y8,yf⟩:=zJ O3;have f0:=yf 0;have f1:=yf 1;have f2:=yf 2;have f3:=yf 3;have f4:=yf 4;have f5:=yf 5;have f6:=yf 6;have f7:=yf 7;have f8:=yf 8;have HY:=zh O3;clear QN hH hE ho AA O3 yf;go_wp2_with fail;have Ad:=zeE HY.out (.int .i64 (c.nv:Int)) (.int .i64 (c.ng:Int)) (.int .i64 (c.nb:Int)) (.int .u64 (fl1:Int)) (.slice va l'.length vc) (.slice h.ga c.groups.length h.gc) (.slice h.ba c.books.length h.bc) (.slice ka K.length kc) (.slice ta TM.length tc);have BL:=zae (B:=w.heap.size+1) (zD.refl _ wr) rfl (.int .i64 (c.nv:Int)) (.int .i64 (c.ng:Int)) (.int .i64 (c.nb:Int)) (.int .u64 (fl1:Int)) (.slice va l'.length vc) (.slice h.ga c.groups.length h.gc) (.slice h.ba c.books.length h.bc) (.slice ka K.length kc) (.slice ta TM.length tc);obtain ⟨r0,r1,r2,r3,r4,r5,r6,r7,r8,-⟩:=zJ Ad;refine bodyPost_ret (zfW _ (w.heap.size+1) _ _ _ _ _ _ _ _ _ _ rfl ⟨r0,r1,r2,r3,r4,r5,r6,r7,r8⟩) rfl ?_;clear Ad r0 r1 r2 r3 r4 r5 r6 r7 r8 z0 z1 z2 z3 z4 z5 z6 z7 z8 y0 y1 y2 y3 y4 y5 y6 y7 y8 f0 f1 f2 f3 f4 f5 f6 f7 f8;generalize World.setCell _ (⟨w.heap.size+1,8,none⟩:Addr) _=W at *;have GO:zD (fun j=> j=w.heap.size+1\/j=w.heap.size+2) w9 W:=(HR.out.2.2.2.1.more (D':=fun j=> j=w.heap.size+1\/j=w.heap.size+2) fun _ h=> .inr h).trans BL fun j hj=> .inl (.inl hj);have CF:Below w.heap.size w W:=⟨GO.os.trans H9.out.2.2.2.1.os,GO.tape.trans H9.out.2.2.2.1.tape,GO.output.trans H9.out.2.2.2.1.output,zs H9.out.2.2.2.1.size GO.size,fun j hj=> (GO.block j (zt hj H9.out.2.2.2.1.size) ud).trans (H9.out.2.2.2.1.block j hj)⟩;have A0:=hC.out.1.below CF;have Ka:=HR.out.2.2.1;rw [zk (by have:=Ez.out;omega)] at Ka
  have yg:w.heap.size+2 < w9.heap.size:=(zg H9.out.1).1;have jJ:∀j,Q j->j < w9.heap.size:=fun j hj=> by have:=hC.out.2.2 j hj;omega
  obtain ⟨va',vc',Gj,JN,-,qm⟩:=HR.out.2.1.row.row zai;simp only [Value.slice.injEq] at Gj;obtain ⟨rfl,-,rfl⟩:=Gj;have aY:zaM (fun j=> j < w9.heap.size) zeK 3 W va l':=zaM.outs zai uf (Q:=fun j=> j < w9.heap.size) ⟨JN,fun b o hb _ hq=> by have:=(qm b o hb).1;omega⟩ (BL.more fun j hj=> by omega) (fun _ h=> .inl h)
  have VC:∀y ∈ l',zaM (fun j=> j < w9.heap.size) zbZ 2 W y.a y.v.sizes:=fun y hy=> ((HR.out.2.1.sub y hy).sub (Q':=fun j=> j < w9.heap.size) fun j hj=> .inl hj).outs zR uf (BL.more fun j hj=> by omega) (fun _ h=> .inl h)
  have af:=(H9.out.2.2.2.2.2.1.outs zah uf (GO.more fun j hj=> by omega) (Q':=fun j=> j=w.heap.size\/j=w.heap.size+1\/j=w.heap.size+2\/Q j) fun _ h=> .inl h)
  have aW:=(H9.out.2.2.2.2.1.outs zR uf (GO.more fun j hj=> by omega) (Q':=fun j=> j=w.heap.size\/j=w.heap.size+1\/j=w.heap.size+2\/Q j) fun _ h=> .inl h)
  have KW:=H2.out.2.2;have Ac:l'.length=(c.vols.map (zo7 c2.ofL fl1)).length:=by rw [<- Ka,List.length_map]
  have QK:=H9.out.2.2.2.2.2.2.2;refine ⟨{h with ka:=ka,kc:=kc,va:=va,vc:=vc,vl:=l',ta:=ta,tc:=tc}, ?_, ?_,CF⟩
  ·rw [KW]
   try unfold Ch.val Ch.cells
   simp only [Ac,QK]
  rw [KW];refine ⟨⟨aY.sub fun j hj=> jJ j hj,fun y hy=> (VC y hy).sub fun j hj=> jJ j hj⟩,Ka,A0.groups,A0.groupsE,A0.books,A0.booksE,af.sub fun j hj=> .inr (.inr (.inr hj)), ?_⟩;have h9:=aW.sub (Q':=Q) fun j hj=> .inr (.inr (.inr hj));rw [QK] at h9;exact h9
end
section
open Go.RowKit
set_option linter.unusedSectionVars false
set_option maxRecDepth 100000
set_option maxHeartbeats 16000000
def zhO (c:Ct) (s:Nat) (o:PO):Nat × Chg:=match c.group o.i with
 | none=> (42,Chg.nil c s)
 | some _=> (0,{Chg.nil c s with c:=c.ungroup o.i})
def zhN (c:Ct) (s:Nat) (o:PO):Nat × Chg:=match c.book o.i with
 | none=> (43,Chg.nil c s)
 | some _=> (0,{Chg.nil c s with c:=c.unmark o.i})
theorem zkH (c:Ct) (s:Nat) (o:PO):zkE (c.groups.findIdx? fun x=> decide ((x.id:Int)=o.i)) 42=(zhO c s o).1/\(zkE (c.groups.findIdx? fun x=> decide ((x.id:Int)=o.i)) 42=0->(zhO c s o).2={Chg.nil c s with c:=c.ungroup o.i}):=zk8 (g:=Chg.nil c s) uf (fun h=> by unfold zhO Ct.group;rw [h]) fun x h=> by unfold zhO Ct.group;rw [h]
theorem zkG (c:Ct) (s:Nat) (o:PO):zkE (c.books.findIdx? fun x=> decide ((x.id:Int)=o.i)) 43=(zhN c s o).1/\(zkE (c.books.findIdx? fun x=> decide ((x.id:Int)=o.i)) 43=0->(zhN c s o).2={Chg.nil c s with c:=c.unmark o.i}):=zk8 (g:=Chg.nil c s) uf (fun h=> by unfold zhN Ct.book;rw [h]) fun x h=> by unfold zhN Ct.book;rw [h]
theorem evZ {p:Prop} (h:p:=by
 clear S O E E3 hS
 go_wp2
 go_ret;refine ⟨rfl,(H1.out.1.bel.trans (Ae.mono H1.out.1.bel.size)).trans B3,fun e=> ⟨h2, .slice none 0 0, [], ?_⟩⟩;rcases Ba with ⟨rfl,-⟩ | ⟨-,h9⟩
 ·exact X3
 exact absurd e h9):p:=h
theorem evW {p:Prop} (h:p:=by
 clear S O E E3 hS
 go_wp2
 go_ret;exact ⟨rfl,(H1.out.1.bel.trans (Ae.mono H1.out.1.bel.size)).trans B3,fun e=> ⟨h2, .slice none 0 0, [],X3⟩⟩):p:=h
theorem evY {p:Prop} (h:p:=by
 clear S O E E3 hS
 go_wp2
 go_ret;refine ⟨congrArg (fun n:Nat=> Ending.returned (.int .i64 (n:Int))) dL.out.1,(H1.out.1.bel.trans (Ae.mono H1.out.1.bel.size)).trans B3,fun e=> ⟨h2, .slice none 0 0, [], ?_⟩⟩;rcases Ba with ⟨rfl,h9⟩ | ⟨-,h9⟩
 ·rw [dL.out.2 h9];exact X3
 exact absurd (dL.out.1.trans e) h9):p:=h
theorem evX {p:Prop} (h:p:=by
 unfold opA zcH zb8 Ch.val Ch.cells at *;rw [hk] at O Ab ⊢;clear H AE hO hR hk
 go_in
 go_wp2_with fail;rw [<- Ab];clear Ab;refine rg (fun W=> Far x w1 W/\W.cell? ⟨x,14,none⟩=some (.int .u64 (sq:Int))) (fun hS=> ?_) ⟨.of hb,by rw [(E _ hb _).1];rfl⟩
 repeat refine tk ?_
 refine cl (HC.out _ hb) ?_
 first
 | (rintro _ w2 ⟨v,rfl,Eo,As⟩
    have q:=Eo.any;obtain ⟨h2,c2,rfl,Bd,Ba⟩:=q)
 | rintro _ w2 ⟨h2,rfl,Bd,As⟩
 try unfold Ch.cells
 have Ae:=hb.trans As;refine ⟨_,rfl,⟨.of Ae,by rw [(E _ Ae 14).1];rfl⟩,fun hS=> ?_⟩
 simp only [Act.put,zSs]
 repeat refine tk ?_
 refine su ?_;intro wS hw;have q:=ChM.lay9 hw (H1.out.1.chg.below Ae) Bd;obtain ⟨X3,F3,B3,E3⟩:=q;clear hw;simp only [zb8,Chg.nil] at E3;refine ⟨⟨hS.1.tr F3,by rw [(E3 wS zr 14).1];rfl⟩,fun hS=> ?_⟩
 repeat refine tk ?_
 first
 | (refine su ?_
    intro wT hw;have q:=ChM.lay1 hw X3;obtain ⟨X4,F4,B4⟩:=q;clear hw;refine ⟨⟨hS.1.tr F4,by rw [(X4.rd _ zr 14).1];rfl⟩,fun hS=> ?_⟩
    replace B3:=B3.trans B4;clear X3;have X3:=X4
    repeat refine tk ?_
    refine rz ?_;exact evZ)
 | (refine su ?_
    intro wT hw;have q:=ChM.lay13 hw X3;obtain ⟨X4,F4,B4⟩:=q;clear hw;refine ⟨⟨hS.1.tr F4,by rw [(X4.rd _ zr 14).1];rfl⟩,fun hS=> ?_⟩
    replace B3:=B3.trans B4;clear X3;have X3:=X4
    repeat refine tk ?_
    refine rz ?_;exact evW)
 | (refine rz ?_
    exact evY)):p:=h
section
attribute [local simp] Below.refl
variable {w0 w:World} {p:Nat} {h:Ch} {a:StA} {cf:Cfg} {st:PS} {nb k:Nat} {Q:Nat→Prop} {x sq:Nat} {o:PO} {da:Option Addr} {dn dc:Nat} {ma:Option Addr} {mn mc:Nat} (H:EvC w0 w p h a cf st nb k Q x h (Chg.nil st.c sq) (.slice none 0 0) []) (AE:sq=st.seq+1) (hO:OpM w o da dn ma mn) (hR:PoR o)
include H AE hO hR
theorem zkI (hk:o.k=1):
 Calls Tryz.prog 26 #[.pointer (some ⟨p,0,none⟩), .pointer (some ⟨x,0,none⟩), .agg (opA o da dn dc ma mn mc)] w (EvE w0 Q x (zb1 st.c sq o)):=by
 obtain ⟨w1,Ab,H1,S,O,E,hb⟩:=ev0 H hO dc mc;have C5:=hR.count ud;have FX:((o.n.toNat:Nat):Int)=o.n:=ud;have HC:=zh fun (W:World) (hW:Below w1.heap.size w1 W)=> zgd (H1.out.1.chg.cat.below hW) H.st.inv.ct (fun j hj=> cw H1.out.1 j hj hW) o.n.toNat sq ud;simp only [FX,Chg.nil] at HC;clear FX C5;exact evX
theorem zkN (hk:o.k=6):
 Calls Tryz.prog 26 #[.pointer (some ⟨p,0,none⟩), .pointer (some ⟨x,0,none⟩), .agg (opA o da dn dc ma mn mc)] w (EvE w0 Q x (zaU st.c sq (st.c.add o.m))):=by
 obtain ⟨w1,Ab,H1,S,O,E,hb⟩:=ev0 H hO dc mc;have HC:=zh fun (W:World) (hW:Below w1.heap.size w1 W)=> znL (cc:=mc) (H1.out.1.chg.cat.below hW) H.st.inv.ct (fun j hj=> cw H1.out.1 j hj hW) (H1.out.2.below hW).ms H1.out.2.few.2;simp only [Chg.nil] at HC;exact evX
theorem zkP (hk:o.k=8):
 Calls Tryz.prog 26 #[.pointer (some ⟨p,0,none⟩), .pointer (some ⟨x,0,none⟩), .agg (opA o da dn dc ma mn mc)] w (EvE w0 Q x (zaU st.c sq (st.c.mark o.i sq))):=by
 obtain ⟨w1,Ab,H1,S,O,E,hb⟩:=ev0 H hO dc mc;have HC:=zh fun (W:World) (hW:Below w1.heap.size w1 W)=> zof (H1.out.1.chg.cat.below hW) H.st.inv.ct (fun j hj=> cw H1.out.1 j hj hW) o.i sq;simp only [Chg.nil] at HC;exact evX
theorem zkO (hk:o.k=7):
 Calls Tryz.prog 26 #[.pointer (some ⟨p,0,none⟩), .pointer (some ⟨x,0,none⟩), .agg (opA o da dn dc ma mn mc)] w (EvE w0 Q x (zhO st.c sq o)):=by
 obtain ⟨w1,Ab,H1,S,O,E,hb⟩:=ev0 H hO dc mc;have dL:=zh (zkH st.c sq o);have HC:=zh fun (W:World) (hW:Below w1.heap.size w1 W)=> zjo (H1.out.1.chg.cat.below hW) H.st.inv.ct (fun j hj=> cw H1.out.1 j hj hW) o.i;simp only [Chg.nil] at HC;exact evX
theorem zkQ (hk:o.k=9):
 Calls Tryz.prog 26 #[.pointer (some ⟨p,0,none⟩), .pointer (some ⟨x,0,none⟩), .agg (opA o da dn dc ma mn mc)] w (EvE w0 Q x (zhN st.c sq o)):=by
 obtain ⟨w1,Ab,H1,S,O,E,hb⟩:=ev0 H hO dc mc;have dL:=zh (zkG st.c sq o);have HC:=zh fun (W:World) (hW:Below w1.heap.size w1 W)=> zjn (H1.out.1.chg.cat.below hW) H.st.inv.ct (fun j hj=> cw H1.out.1 j hj hW) o.i;simp only [Chg.nil] at HC;exact evX
theorem ziT (hk:o.k=14) (Jd:cf.every < 18446744073709551616):
 Calls Tryz.prog 26 #[.pointer (some ⟨p,0,none⟩), .pointer (some ⟨x,0,none⟩), .agg (opA o da dn dc ma mn mc)] w (EvE w0 Q x (((0:Nat),({Chg.nil st.c sq with c:=st.c.retain st.clock cf.win cf.every,prune:=true}:Chg)))):=by
 obtain ⟨w1,Ab,H1,S,O,E,hb⟩:=ev0 H hO dc mc;have HC:=zh fun (W:World) (hW:Below w1.heap.size w1 W)=> zlz (H1.out.1.chg.cat.below hW) H.st.inv.ct (fun j hj=> cw H1.out.1 j hj hW) st.clock cf.win cf.every H.st.inv.clock H.st.inv.seq Jd;simp only [Chg.nil] at HC;exact evX
end
end
end Go.Proofs.YtaoceecfjlkmdaaGreat
