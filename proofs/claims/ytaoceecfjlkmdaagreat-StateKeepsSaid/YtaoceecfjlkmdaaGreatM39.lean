/- Lemmas of the walks, merged and pressed by press.py. Conditions: those of each theorem. -/
import Derived.Test.YtaoceecfjlkmdaaGreatM35
import Derived.Test.YtaoceecfjlkmdaaGreatM38
set_option maxRecDepth 100000
set_option maxHeartbeats 64000000
set_option linter.all false
namespace Go.Proofs.YtaoceecfjlkmdaaGreat
section
open Go.RowKit
def wrC (c:Ct) (l:List En) (s:Nat) (o:PO):Chg:=if o.k=5 then {Chg.nil c s with vol:=o.v.toNat,puts:=zaL l o.v.toNat (s - 1) o.b.toNat o.n.toNat} else {Chg.nil c s with vol:=o.v.toNat,puts:= [⟨o.b.toNat,0,some (zdy o.d)⟩]}
theorem zeu (c:Ct) (l:List En) (s:Nat) (o:PO) (hb:0≤o.b) (m:Int) (hm:0≤m) (Vp:o.k=5→m=o.n) (aq:o.k≠5→m=1):((zaD c o.v o.b m).2≠0∧zaz c l s o=((zaD c o.v o.b m).2,Chg.nil c s))∨((zaD c o.v o.b m).2=0∧zaz c l s o=(0,wrC c l s o)):=by
 unfold zaz zaD wrC
 cases c.find o.v with
 | none=> exact .inl ⟨by simp,rfl⟩
 | some y=>
   simp only
   by_cases h5:o.k=5
   ·have h6:=Vp h5;rw [if_pos h5,if_pos h5]
    by_cases h:o.b < 0∨(zas y.sizes:Int) - o.b < m
    ·rw [if_pos h,if_pos (by omega)];exact .inl ⟨by simp,rfl⟩
    ·rw [if_neg h,if_neg (by omega)];exact .inr ⟨rfl,rfl⟩
   ·have h6:=aq h5;rw [if_neg h5,if_neg h5]
    by_cases h:o.b < 0∨(zas y.sizes:Int) - o.b < m
    ·rw [if_pos h,if_pos (by omega)];exact .inl ⟨by simp,rfl⟩
    ·rw [if_neg h,if_neg (by omega)];exact .inr ⟨rfl,rfl⟩
theorem zgA {w:World} (o:Obj) {a:Addr} (v:Value) (h:a.block < w.heap.size):(w.alloc o).setCell a v=(w.setCell a v).alloc o:=by
 unfold World.alloc World.setCell;simp only
 congr 1
 apply Array.ext_getElem?
 intro i;rw [Array.getElem?_modify,Array.getElem?_push,Array.getElem?_push,Array.getElem?_modify,Array.size_modify]
 by_cases hi:a.block=i
 ·subst hi;rw [if_pos rfl,if_pos rfl,if_neg (by omega),if_neg (by omega)]
 ·rw [if_neg hi,if_neg hi]
theorem zbA {w:World} {b:Addr} {u:Value} (o:Obj) (h:w.cell? b=some u):(w.alloc o).cell? b=some u:=by
 rcases Nat.lt_or_ge b.block w.heap.size with h1 | h1
 ·exact (World.cell?_alloc_lt _ _ _ h1).trans h
 ·simp [World.cell?,Array.getElem?_eq_none h1] at h
theorem zfk {w:World} {b:Addr} {u:Value} (o:Obj) (h:w.cell? b=some u) (hf:w.frozen? b=false):(w.alloc o).frozen? b=false:=by
 rcases Nat.lt_or_ge b.block w.heap.size with h1 | h1
 ·simp only [World.frozen?,World.alloc,Array.getElem?_push_lt h1] at *;rw [Array.getElem?_eq_getElem h1] at hf;exact hf
 ·simp [World.cell?,Array.getElem?_eq_none h1] at h
theorem zpr {w:World} {x B m i j k:Nat} {u1 u2 u3 v:Value} (h:w.cell? ⟨B,i,none⟩=some u1∧w.cell? ⟨B,j,none⟩=some u2∧w.cell? ⟨B,k,none⟩=some u3) (hn:x≠B):(w.setCell ⟨x,m,none⟩ v).cell? ⟨B,i,none⟩=some u1∧(w.setCell ⟨x,m,none⟩ v).cell? ⟨B,j,none⟩=some u2∧(w.setCell ⟨x,m,none⟩ v).cell? ⟨B,k,none⟩=some u3:=⟨zam h.1 hn,zam h.2.1 hn,zam h.2.2 hn⟩
theorem zpK {w:World} {B i j k:Nat} {u1 u2 u3:Value} {o:Obj} (h:w.cell? ⟨B,i,none⟩=some u1∧w.cell? ⟨B,j,none⟩=some u2∧w.cell? ⟨B,k,none⟩=some u3):(w.alloc o).cell? ⟨B,i,none⟩=some u1∧(w.alloc o).cell? ⟨B,j,none⟩=some u2∧(w.alloc o).cell? ⟨B,k,none⟩=some u3:=⟨zbA o h.1,zbA o h.2.1,zbA o h.2.2⟩
theorem ChM.lit {Q:Nat→Prop} {B:Nat} {w:World} {x:Nat} {h:Ch} {g:Chg} (X:ChM Q B w x h g (.slice none 0 0) []) (hQ:∀j,Q j→j < w.heap.size) (hB:B≤w.heap.size) (y:Ph) (hd:∀z,y.d=some z→Bs w (some ⟨z.1,0,none⟩) 64 z.2∧¬(Q z.1∨z.1=x)):
 ChM Q B ((w.alloc (.cells (zaT y).toArray 91)).setCell ⟨x,11,none⟩ (.slice (some ⟨w.heap.size,0,none⟩) ((1:Nat)) 1)) x h {g with puts:= [y.pu]} (.slice (some ⟨w.heap.size,0,none⟩) 1 1) [y]∧Below B w ((w.alloc (.cells (zaT y).toArray 91)).setCell ⟨x,11,none⟩ (.slice (some ⟨w.heap.size,0,none⟩) 1 1)):=by
 have CI:=X.xlt;have Aa:Below w.heap.size w (w.alloc (.cells (zaT y).toArray 91)):=zr.alloc zl _;have hg:=zq (w.alloc (.cells (zaT y).toArray 91)) ⟨x,11,none⟩ (.slice (some ⟨w.heap.size,0,none⟩) 1 1);have AH:=(Aa.block x CI).trans X.box;have e1:=heap_setCell_same _ x 11 _ _ (.slice (some ⟨w.heap.size,0,none⟩) 1 1) AH;have B6:=heap_alloc_new w (.cells (zaT y).toArray 91);have AR:=World.alloc_size w (.cells (zaT y).toArray 91);have Mu:∀j,j < w.heap.size→j≠x→((w.alloc (.cells (zaT y).toArray 91)).setCell ⟨x,11,none⟩ (.slice (some ⟨w.heap.size,0,none⟩) 1 1)).heap[j]? =w.heap[j]? :=fun j hj hn=> (hg.block j (by omega) fun e=> hn (by simpa using e)).trans (Aa.block j hj)
 refine ⟨⟨e1, X.lo, ?_, ?_, fun e => by have e:w.heap.size=x:=by simpa [Value.ownBlock] using e
                                        omega,rfl,fun z hz u hu=> ?_⟩,(Aa.mono hB).setCell (p:=⟨x,11,none⟩) X.lo _⟩
 ·refine X.cat.outs (Q':=fun j=> Q j∨j=x∨(Value.slice (some ⟨w.heap.size,0,none⟩) 1 1).ownBlock=some j) (((zD.of_below Aa).trans (zD.turn (D:=fun j=> j=x) hg rfl) fun _ h=> .inl h).more fun j hj=> .inr (.inl hj)) fun j hj=> ?_;rcases hj with hj | hj | hj
  ·exact .inl (.inl hj)
  ·exact .inl (.inr (.inl hj))
  ·have hj:w.heap.size=j:=by simpa [Value.ownBlock] using hj
   exact .inr (by omega)
 ·refine ⟨by simp [zB,zaT], .inr ⟨w.heap.size,1,(zaT y).toArray,rfl,hB, ?_,zl,by decide,by simp [zaT],by simp [zB,zaT]⟩⟩
  exact (hg.block w.heap.size (by omega) fun e => by have e:w.heap.size=x:=by simpa using e
                                                     omega).trans B6
 ·simp only [List.mem_singleton] at hz;subst hz;obtain ⟨h1,h2⟩:=hd u hu;obtain ⟨b,o,c,e,-,-,F5⟩:=Bs.cell h1 0 (by omega)
  cases e
  refine ⟨Bs.heap h1 (Mu u.1 F5 fun e=> h2 (.inr e)),fun hq=> ?_⟩;rcases hq with hq | hq | hq
  ·exact h2 (.inl hq)
  ·exact h2 (.inr hq)
  ·have hq:w.heap.size=u.1:=by simpa [Value.ownBlock] using hq
   omega
theorem zlP {w0 w:World} {p:Nat} {h:Ch} {a:StA} {cf:Cfg} {st:PS} {nb k:Nat} {Q:Nat→Prop} {x sq:Nat} {o:PO} {da:Option Addr} {dn dc:Nat} {ma:Option Addr} {mn mc:Nat} (H:EvC w0 w p h a cf st nb k Q x h (Chg.nil st.c sq) (.slice none 0 0) []) (AE:sq=st.seq+1) (hO:OpM w o da dn ma mn) (hv:1≤o.v∧o.v≤65535) (hb:0≤o.b∧o.b≤31) (hk:o.k=5∧1≤o.n∧o.n≤32):
 Calls Tryz.prog 55 #[.pointer (some ⟨p,0,none⟩), .pointer (some ⟨x,0,none⟩), .agg (opA o da dn dc ma mn mc)] w (EvE w0 Q x (zaz st.c st.l sq o)):=by
 have HV:=zh (zn hv (zn hb hk));have Ik:((o.v.toNat:Nat):Int)=o.v:=by omega
 have Bz:((o.b.toNat:Nat):Int)=o.b:=by omega
 have AW:=zeu st.c st.l sq o hb.1 o.n (by omega) (fun _=> rfl) (fun h=> absurd hk.1 h)
 obtain ⟨ew,Po⟩:∃ew,(zaD st.c o.v o.b o.n).2=ew:=⟨_,rfl⟩;obtain ⟨zwo,Uw⟩:∃zwo,(zaD st.c o.v o.b o.n).1=zwo:=⟨_,rfl⟩;rw [Po] at AW;have Br:=zh (show (ew≠0∧zaz st.c st.l sq o=(ew,Chg.nil st.c sq))∨(ew=0∧zaz st.c st.l sq o=(0,{Chg.nil st.c sq with vol:=o.v.toNat,puts:=zaL st.l o.v.toNat (sq - 1) o.b.toNat o.n.toNat})) from by unfold wrC at AW;rw [if_pos hk.1] at AW;exact AW)
 have HK:=zh hk.1;clear AW;obtain ⟨w1,Ab,hX,H1,Cm,HX,AU⟩:=evS H AE hO dc mc;have Al:=zh (fun (W:World) (hW:Below w1.heap.size w1 W)=> (H1.out.stw.below hW).reads);have CD:=zh (fun (W:World) (hW:Below w1.heap.size w1 W)=> (H1.out.chg.below hW).reads);obtain ⟨s0,s1,s2,s3,s4,s5,s6,s7,s8,s9,s10,s11,s12,s13,s14,s15,s16,s17,s18,s19,-⟩:=H1.out.stw.reads;obtain ⟨e0,e1,e2,e3,e4,e5,e6,e7,e8,e9,e10,e11,e12,e13,e14,-⟩:=H1.out.chg.reads;obtain ⟨o0,o1,o2,o3,o4,o5,o6,o7⟩:=rd8 (w:=w1) hX;clear H AE hO hX;have HW:=zh (fun (W:World) (hW:Below w1.heap.size w1 W)=> zen (H1.out.stw.below hW) o.v o.b o.n (by have:=HV.out;omega))
 rw [Po,Uw] at HW;replace o0:=show w1.cell? ⟨w.heap.size,0,none⟩=some (.int .i64 o.k) from o0;rw [HK.out] at o0;clear Po Uw hv hb hk s0 s1 s2 s3 s4 s5 s6 s7 s8 s9 s10 s11 s12 s13 s14 s15 s16 s17 s18 s19 e0 e1 e2 e3 e4 e5 e6 e7 e8 e9 e10 e11 e12 e13 e14;unfold opA at *;go_enter Tryz.func55,Tryz.ntmps55;go_upto_region 1 with fail;rw [← Ab];clear Ab;go_wp2_with fail;refine (HW.out _ zr).mono ?_;rintro r w3 ⟨rfl,Am⟩
 by_cases hz:ew=0
 ·rcases Br.out with ⟨h0,-⟩ | ⟨-,CH⟩
  ·exact absurd hz h0
  ·have LI:=zh CH;clear CH;subst hz;have HC:=zh (zn Am (H1.out.below Am));have o4:=cell_of_row w3 _ 4 _ _ _ (AU.out w3 Am);have o1:=cell_of_row w3 _ 1 _ _ _ (AU.out w3 Am);have o0:=show w3.cell? ⟨w.heap.size,0,none⟩=some (.int .i64 o.k) from cell_of_row w3 _ 0 _ _ _ (AU.out w3 Am);have o3:=cell_of_row w3 _ 3 _ _ _ (AU.out w3 Am);rw [HK.out] at o0;have HH:=zh (zhU HC.out.2 rfl o.v.toNat o.b.toNat (o.b.toNat+o.n.toNat) (by have:=HV.out;omega) (by have:=HV.out;omega) (by have:=HV.out;omega))
   simp only [Ik,Bz] at HH;have aU:IntKind.i64.wrap (o.b+o.n)=((o.b.toNat+o.n.toNat:Nat):Int):=by have:=HV.out;rw [zw _ (by omega)];omega
   generalize ((o.b.toNat+o.n.toNat:Nat):Int)=bn at *;clear Am;go_wp2_with fail;refine HH.out.mono ?_;rintro r w4 hE;unfold HolE at hE;obtain ⟨rfl,pv,pl,hE⟩:=hE;have JV:=zh hE;clear hE;go_wp2_with fail;go_ret;unfold EvE;rw [LI.out];refine ⟨rfl,JV.out.bel,fun _=> ⟨h,pv,pl, ?_⟩⟩;have h9:=JV.out.chg;have h8:sq - 1=st.seq:=by rw [HX.out.2.2.1];omega
   rw [h8];rw [show o.b.toNat+o.n.toNat - o.b.toNat=o.n.toNat by omega] at h9
   exact h9
 ·rcases Br.out with ⟨h0,CH⟩ | ⟨h0,-⟩
  ·have Q9:((ew:Int) !=0)=true:=by simp;omega
   have HB:=zh (H1.out.bel.trans (Am.mono H1.out.bel.size));clear Am;go_wp2_with fail;go_ret;unfold EvE;rw [CH];exact ⟨rfl,HB.out,fun e=> absurd e hz⟩
  ·exact absurd h0 hz
theorem zlQ {w0 w:World} {p:Nat} {h:Ch} {a:StA} {cf:Cfg} {st:PS} {nb k:Nat} {Q:Nat→Prop} {x sq:Nat} {o:PO} {da:Option Addr} {dn dc:Nat} {ma:Option Addr} {mn mc:Nat} (H:EvC w0 w p h a cf st nb k Q x h (Chg.nil st.c sq) (.slice none 0 0) []) (AE:sq=st.seq+1) (hO:OpM w o da dn ma mn) (hv:1≤o.v∧o.v≤65535) (hb:0≤o.b∧o.b≤31) (hk:o.k=4):
 Calls Tryz.prog 55 #[.pointer (some ⟨p,0,none⟩), .pointer (some ⟨x,0,none⟩), .agg (opA o da dn dc ma mn mc)] w (EvE w0 Q x (zaz st.c st.l sq o)):=by
 have HV:=zh (zn hv (zn hb hk));have Ik:((o.v.toNat:Nat):Int)=o.v:=by omega
 have Bz:((o.b.toNat:Nat):Int)=o.b:=by omega
 have AW:=zeu st.c st.l sq o hb.1 1 (by omega) (fun h=> by omega) (fun _=> rfl)
 obtain ⟨ew,Po⟩:∃ew,(zaD st.c o.v o.b 1).2=ew:=⟨_,rfl⟩;obtain ⟨zwo,Uw⟩:∃zwo,(zaD st.c o.v o.b 1).1=zwo:=⟨_,rfl⟩;rw [Po] at AW;have Br:=zh (show (ew≠0∧zaz st.c st.l sq o=(ew,Chg.nil st.c sq))∨(ew=0∧zaz st.c st.l sq o=(0,{Chg.nil st.c sq with vol:=o.v.toNat,puts:= [⟨o.b.toNat,0,some (zdy o.d)⟩]})) from by unfold wrC at AW;rw [if_neg (by omega)] at AW;exact AW)
 have HK:=zh hk;clear AW;obtain ⟨w1,Ab,hX,H1,Cm,HX,AU⟩:=evS H AE hO dc mc;have Al:=zh (fun (W:World) (hW:Below w1.heap.size w1 W)=> (H1.out.stw.below hW).reads);have CD:=zh (fun (W:World) (hW:Below w1.heap.size w1 W)=> (H1.out.chg.below hW).reads);obtain ⟨s0,s1,s2,s3,s4,s5,s6,s7,s8,s9,s10,s11,s12,s13,s14,s15,s16,s17,s18,s19,-⟩:=H1.out.stw.reads;obtain ⟨e0,e1,e2,e3,e4,e5,e6,e7,e8,e9,e10,e11,e12,e13,e14,-⟩:=H1.out.chg.reads;obtain ⟨o0,o1,o2,o3,o4,o5,o6,o7⟩:=rd8 (w:=w1) hX;clear H AE hO hX;have HW:=zh (fun (W:World) (hW:Below w1.heap.size w1 W)=> zen (H1.out.stw.below hW) o.v o.b 1 (by have:=HV.out;omega))
 rw [Po,Uw] at HW;replace o0:=show w1.cell? ⟨w.heap.size,0,none⟩=some (.int .i64 o.k) from o0;rw [HK.out] at o0;clear Po Uw hv hb hk s0 s1 s2 s3 s4 s5 s6 s7 s8 s9 s10 s11 s12 s13 s14 s15 s16 s17 s18 s19 e0 e1 e2 e3 e4 e5 e6 e7 e8 e9 e10 e11 e12 e13 e14;unfold opA at *;go_enter Tryz.func55,Tryz.ntmps55;go_upto_region 1 with fail;rw [← Ab];clear Ab;go_wp2_with fail;refine (HW.out _ zr).mono ?_;rintro r w3 ⟨rfl,Am⟩
 by_cases hz:ew=0
 ·rcases Br.out with ⟨h0,-⟩ | ⟨-,CH⟩
  ·exact absurd hz h0
  ·have LI:=zh CH;clear CH;subst hz;have HC:=zh (zn Am (H1.out.below Am));have o0:=show w3.cell? ⟨w.heap.size,0,none⟩=some (.int .i64 o.k) from cell_of_row w3 _ 0 _ _ _ (AU.out w3 Am);rw [HK.out] at o0;have Pj:Below w1.heap.size w1 w3.drew:=Am.drew;have Bm:=zh (fun (W:World) (hW:Below w1.heap.size w1 W)=> show W.cell? ⟨w.heap.size,1,none⟩=some (.int .i64 o.v)∧W.cell? ⟨w.heap.size,3,none⟩=some (.int .i64 o.b)∧W.cell? ⟨w.heap.size,6,none⟩=some (.slice da dn dc) from ⟨cell_of_row W _ 1 _ _ _ (AU.out W hW),cell_of_row W _ 3 _ _ _ (AU.out W hW),cell_of_row W _ 6 _ _ _ (AU.out W hW)⟩);have HZ:=Bm.out _ Pj;have Ri:=zh (fun (W:World) (hW:Below w1.heap.size w1 W)=> zjV dc ((HX.out.2.2.2.below (hW.mono zl)).bs));have HB:=zh Pj;go_upto_region 10 with fail;refine zy (by kernel_rfl) [0,1,2,3,4,5,6,7,8,9,10,11,12,13,14,15,16] (fun W=> W.cell? ⟨w.heap.size,1,none⟩=some (.int .i64 o.v)∧W.cell? ⟨w.heap.size,3,none⟩=some (.int .i64 o.b)∧W.cell? ⟨w.heap.size,6,none⟩=some (.slice da dn dc)) (fun _=> True) ?_
   refine tL 0 HZ ?_;refine tL 1 HZ ?_;refine tL 2 HZ ?_;refine tL 4 HZ ?_;refine tL 6 HZ ?_;refine tL 3 HZ ?_;refine tL 5 HZ ?_;refine tL 7 HZ ?_;refine zd (i:=8) (by kernel_rfl) rfl (fun K' hK=> ?_)
   refine zA (o:=⟨some 50,_,_,_,_,_⟩) (by kernel_rfl) 41 Tryz.func41 (by kernel_rfl) rfl _ _ rfl #[.slice da dn dc] (by first | (simp [Act.eval];done) | (simp [Act.eval,Act.put];done)) (Ri.out _ Pj) ?_
   rintro r w5 ⟨g,rfl,hg,Fq,Ag⟩;refine ⟨_,rfl, ?_⟩;have O7:Below w1.heap.size w1 w5:=Pj.trans (Ag.mono Pj.size);have X5:=H1.out.chg.below O7;have EA:=zh (zn X5 (zn O7 (zn hg Fq)));obtain ⟨-,-,-,-,-,-,-,-,-,-,y10,y11,-,-,-,yf⟩:=X5.reads;have g10:=yf 10;have g11:=yf 11;clear yf hg Fq Ag X5;clear HZ;have HZ:=Bm.out _ O7;refine hK.out _ _ ⟨HZ,fun h=> absurd h (by decide)⟩ ?_
   try simp only [Act.put,List.setIfInBounds_toArray,List.set_cons_zero,List.set_cons_succ]
   clear hK K';refine tL 9 HZ ?_;refine tL 11 HZ ?_;refine tL 12 HZ ?_;refine zbq (i:=10) (i':=13) (by kernel_rfl) rfl rfl (fun K' hK=> ?_) (fun K' hK=> ?_)
   ·go_simp;refine hK.out _ _ ⟨(zpK HZ),fun h=> absurd h (by decide)⟩ ?_
    try simp only [Act.put,List.setIfInBounds_toArray,List.set_cons_zero,List.set_cons_succ]
    clear hK K';have y10:=zbA (.cells #[.int .i64 o.b, .int .u32 0, .slice (some ⟨g,0,none⟩) 64 64] 91) y10;have g10:=zfk (.cells #[.int .i64 o.b, .int .u32 0, .slice (some ⟨g,0,none⟩) 64 64] 91) EA.out.1.reads.2.2.2.2.2.2.2.2.2.2.1 g10;refine zd (i:=13) (by kernel_rfl) rfl (fun K' hK=> ?_)
    go_simp;refine hK.out _ _ ⟨(zpr (zpK HZ) Cm),fun h=> absurd h (by decide)⟩ ?_
    try simp only [Act.put,List.setIfInBounds_toArray,List.set_cons_zero,List.set_cons_succ]
    clear hK K';replace HZ:=zpK (o:=(.cells #[.int .i64 o.b, .int .u32 0, .slice (some ⟨g,0,none⟩) 64 64] 91)) (zpr (x:=x) (m:=10) (v:= .int .i64 o.v) HZ Cm);clear y10 g10 y11 g11;obtain ⟨wA,BR⟩:∃wA,wA=w5.setCell ⟨x,10,none⟩ (.int .i64 o.v):=⟨_,rfl⟩;rw [zgA (.cells #[.int .i64 o.b, .int .u32 0, .slice (some ⟨g,0,none⟩) 64 64] 91) _ (show x < w5.heap.size from EA.out.1.xlt)];rw [← BR];rw [← BR] at HZ;have XA:ChM Q w0.heap.size wA x h {Chg.nil st.c sq with vol:=o.v.toNat} (.slice none 0 0) []:=by
     have h9:=EA.out.1.vol1 o.v.toNat;rw [Ik,← BR] at h9;exact h9
    have Js:wA.heap.size=w5.heap.size:=by rw [BR];exact World.size_setCell _ _ _
    have BI:Below w0.heap.size w0 wA:=by rw [BR];exact (H1.out.bel.trans (EA.out.2.1.mono H1.out.bel.size)).setCell (p:=⟨x,10,none⟩) EA.out.1.lo _
    have NB:g≠x:=by have h1:=H1.out.chg.xlt;have h2:=EA.out.2.2.2;have h3:=HB.out.size;omega
    have NA:wA.heap[g]? =w5.heap[g]? :=by rw [BR];exact (zq w5 ⟨x,10,none⟩ (.int .i64 o.v)).block g (zg EA.out.2.2.1).1 (fun e=> NB (by simpa using e))
    have KG:=XA.lit (fun j hj=> by have:=H1.out.stw.qlt j hj;have:=EA.out.2.1.size;omega) BI.size ⟨o.b.toNat,0,some (g,zdy o.d)⟩ (fun z hz=> by
     cases hz
     refine ⟨by have h9:=zjK (NA.trans EA.out.2.2.1);rw [zaK] at h9;exact h9,fun hq=> ?_⟩
     have Fq:=EA.out.2.2.2;have:=HB.out.size;rcases hq with hq | hq
     ·have:=H1.out.stw.qlt _ hq;omega
     ·have:=H1.out.chg.xlt;omega)
    have yA:=XA.reads.2.2.2.2.2.2.2.2.2.2.2.1;have gA:=XA.reads.2.2.2.2.2.2.2.2.2.2.2.2.2.2.2 11;have y11:=zbA (.cells #[.int .i64 o.b, .int .u32 0, .slice (some ⟨g,0,none⟩) 64 64] 91) yA;have g11:=zfk (.cells #[.int .i64 o.b, .int .u32 0, .slice (some ⟨g,0,none⟩) 64 64] 91) yA gA;rw [← Js];have HL:=zh KG;have Jv:=zh BI;unfold zaT dV at HL;simp only [Bz] at HL;clear KG BI NB NA XA Js BR yA gA;generalize wA.alloc _=wB at *;refine tL 14 HZ ?_;refine tL 15 HZ ?_;refine zd (i:=16) (by kernel_rfl) rfl (fun K' hK=> ?_)
    go_simp;refine hK.out _ _ ⟨(zpr HZ Cm),fun h=> absurd h (by decide)⟩ ?_
    try simp only [Act.put,List.setIfInBounds_toArray,List.set_cons_zero,List.set_cons_succ]
    clear hK K';refine zI (by kernel_rfl) ?_ _
    go_wp2_with fail;go_ret;unfold EvE;rw [LI.out];exact ⟨rfl,Jv.out.trans HL.out.2,fun _=> ⟨h,_,_,HL.out.1⟩⟩
   ·go_simp;refine hK.out _ _ ⟨(zpr HZ Cm),fun h=> absurd h (by decide)⟩ ?_
    try simp only [Act.put,List.setIfInBounds_toArray,List.set_cons_zero,List.set_cons_succ]
    clear hK K';refine zd (i:=10) (by kernel_rfl) rfl (fun K' hK=> ?_)
    go_simp;refine hK.out _ _ ⟨(zpK (zpr HZ Cm)),fun h=> absurd h (by decide)⟩ ?_
    try simp only [Act.put,List.setIfInBounds_toArray,List.set_cons_zero,List.set_cons_succ]
    clear hK K';replace HZ:=zpK (o:=(.cells #[.int .i64 o.b, .int .u32 0, .slice (some ⟨g,0,none⟩) 64 64] 91)) (zpr (x:=x) (m:=10) (v:= .int .i64 o.v) HZ Cm);clear y10 g10 y11 g11;obtain ⟨wA,BR⟩:∃wA,wA=w5.setCell ⟨x,10,none⟩ (.int .i64 o.v):=⟨_,rfl⟩;rw [← BR];rw [← BR] at HZ;have XA:ChM Q w0.heap.size wA x h {Chg.nil st.c sq with vol:=o.v.toNat} (.slice none 0 0) []:=by
     have h9:=EA.out.1.vol1 o.v.toNat;rw [Ik,← BR] at h9;exact h9
    have Js:wA.heap.size=w5.heap.size:=by rw [BR];exact World.size_setCell _ _ _
    have BI:Below w0.heap.size w0 wA:=by rw [BR];exact (H1.out.bel.trans (EA.out.2.1.mono H1.out.bel.size)).setCell (p:=⟨x,10,none⟩) EA.out.1.lo _
    have NB:g≠x:=by have h1:=H1.out.chg.xlt;have h2:=EA.out.2.2.2;have h3:=HB.out.size;omega
    have NA:wA.heap[g]? =w5.heap[g]? :=by rw [BR];exact (zq w5 ⟨x,10,none⟩ (.int .i64 o.v)).block g (zg EA.out.2.2.1).1 (fun e=> NB (by simpa using e))
    have KG:=XA.lit (fun j hj=> by have:=H1.out.stw.qlt j hj;have:=EA.out.2.1.size;omega) BI.size ⟨o.b.toNat,0,some (g,zdy o.d)⟩ (fun z hz=> by
     cases hz
     refine ⟨by have h9:=zjK (NA.trans EA.out.2.2.1);rw [zaK] at h9;exact h9,fun hq=> ?_⟩
     have Fq:=EA.out.2.2.2;have:=HB.out.size;rcases hq with hq | hq
     ·have:=H1.out.stw.qlt _ hq;omega
     ·have:=H1.out.chg.xlt;omega)
    have yA:=XA.reads.2.2.2.2.2.2.2.2.2.2.2.1;have gA:=XA.reads.2.2.2.2.2.2.2.2.2.2.2.2.2.2.2 11;have y11:=zbA (.cells #[.int .i64 o.b, .int .u32 0, .slice (some ⟨g,0,none⟩) 64 64] 91) yA;have g11:=zfk (.cells #[.int .i64 o.b, .int .u32 0, .slice (some ⟨g,0,none⟩) 64 64] 91) yA gA;rw [← Js];have HL:=zh KG;have Jv:=zh BI;unfold zaT dV at HL;simp only [Bz] at HL;clear KG BI NB NA XA Js BR yA gA;generalize wA.alloc _=wB at *;refine tL 14 HZ ?_;refine tL 15 HZ ?_;refine zd (i:=16) (by kernel_rfl) rfl (fun K' hK=> ?_)
    go_simp;refine hK.out _ _ ⟨(zpr HZ Cm),fun h=> absurd h (by decide)⟩ ?_
    try simp only [Act.put,List.setIfInBounds_toArray,List.set_cons_zero,List.set_cons_succ]
    clear hK K';refine zI (by kernel_rfl) ?_ _
    go_wp2_with fail;go_ret;unfold EvE;rw [LI.out];exact ⟨rfl,Jv.out.trans HL.out.2,fun _=> ⟨h,_,_,HL.out.1⟩⟩
 ·rcases Br.out with ⟨h0,CH⟩ | ⟨h0,-⟩
  ·have Q9:((ew:Int) !=0)=true:=by simp;omega
   have HB:=zh (H1.out.bel.trans (Am.mono H1.out.bel.size));clear Am;go_wp2_with fail;go_ret;unfold EvE;rw [CH];exact ⟨rfl,HB.out,fun e=> absurd e hz⟩
  ·exact absurd h0 hz
end
section
open Go.RowKit
theorem zkJ {w0 w:World} {p:Nat} {h:Ch} {a:StA} {cf:Cfg} {st:PS} {nb k:Nat} {Q:Nat→Prop} {x sq:Nat} {o:PO} {da:Option Addr} {dn dc:Nat} {ma:Option Addr} {mn mc:Nat} (H:EvC w0 w p h a cf st nb k Q x h (Chg.nil st.c sq) (.slice none 0 0) []) (AE:sq=st.seq+1) (hO:OpM w o da dn ma mn) (hR:PoR o) (hk:o.k=2):
 Calls Tryz.prog 26 #[.pointer (some ⟨p,0,none⟩), .pointer (some ⟨x,0,none⟩), .agg (opA o da dn dc ma mn mc)] w (EvE w0 Q x (zbh st.c sq o)):=by
 obtain ⟨w1,Ab,hX,H1,Cm,HX,AU⟩:=evS H AE hO dc mc;have Al:=zh (fun (W:World) (hW:Below w1.heap.size w1 W)=> (H1.out.stw.below hW).reads);have CD:=zh (fun (W:World) (hW:Below w1.heap.size w1 W)=> (H1.out.chg.below hW).reads);obtain ⟨s0,s1,s2,s3,s4,s5,s6,s7,s8,s9,s10,s11,s12,s13,s14,s15,s16,s17,s18,s19,-⟩:=H1.out.stw.reads;obtain ⟨e0,e1,e2,e3,e4,e5,e6,e7,e8,e9,e10,e11,e12,e13,e14,-⟩:=H1.out.chg.reads;obtain ⟨o0,o1,o2,o3,o4,o5,o6,o7⟩:=rd8 (w:=w1) hX;clear H AE hO hX;have AK:=zh (zjp (dc:=dc) (mc:=mc) H1.out HX.out.2.2.1 HX.out.2.2.2 (hR.vol (by omega)).1)
 unfold opA at AK;rw [hk] at AK;replace o0:=show w1.cell? ⟨w.heap.size,0,none⟩=some (.int .i64 o.k) from o0;rw [hk] at o0;clear hk hR Al CD s0 s1 s2 s3 s4 s5 s6 s7 s8 s9 s10 s11 s12 s13 s14 s15 s16 s17 s18 s19 e0 e1 e2 e3 e4 e5 e6 e7 e8 e9 e10 e11 e12 e13 e14;unfold opA at *;go_enter Tryz.func26,Tryz.ntmps26;go_upto_region 1 with fail;rw [← Ab];clear Ab;generalize hg:(zbh st.c sq o)=ev at *;clear hg;go_wp2_with fail;refine AK.out.mono ?_;rintro r w3 hE;unfold EvE at hE;obtain ⟨rfl,hE⟩:=hE;have HG:=zh hE;clear hE AK;go_wp2_with fail;go_ret;unfold EvE;exact ⟨by first | rfl | trivial,HG.out⟩
theorem zkK {w0 w:World} {p:Nat} {h:Ch} {a:StA} {cf:Cfg} {st:PS} {nb k:Nat} {Q:Nat→Prop} {x sq:Nat} {o:PO} {da:Option Addr} {dn dc:Nat} {ma:Option Addr} {mn mc:Nat} (H:EvC w0 w p h a cf st nb k Q x h (Chg.nil st.c sq) (.slice none 0 0) []) (AE:sq=st.seq+1) (hO:OpM w o da dn ma mn) (hR:PoR o) (hk:o.k=3):
 Calls Tryz.prog 26 #[.pointer (some ⟨p,0,none⟩), .pointer (some ⟨x,0,none⟩), .agg (opA o da dn dc ma mn mc)] w (EvE w0 Q x (za6 st.c st.l sq o)):=by
 obtain ⟨w1,Ab,hX,H1,Cm,HX,AU⟩:=evS H AE hO dc mc;have Al:=zh (fun (W:World) (hW:Below w1.heap.size w1 W)=> (H1.out.stw.below hW).reads);have CD:=zh (fun (W:World) (hW:Below w1.heap.size w1 W)=> (H1.out.chg.below hW).reads);obtain ⟨s0,s1,s2,s3,s4,s5,s6,s7,s8,s9,s10,s11,s12,s13,s14,s15,s16,s17,s18,s19,-⟩:=H1.out.stw.reads;obtain ⟨e0,e1,e2,e3,e4,e5,e6,e7,e8,e9,e10,e11,e12,e13,e14,-⟩:=H1.out.chg.reads;obtain ⟨o0,o1,o2,o3,o4,o5,o6,o7⟩:=rd8 (w:=w1) hX;clear H AE hO hX;have AK:=zh (zjr (dc:=dc) (mc:=mc) H1.out HX.out.2.2.1 HX.out.2.2.2 (hR.vol (by omega)) (hR.count (by omega)))
 unfold opA at AK;rw [hk] at AK;replace o0:=show w1.cell? ⟨w.heap.size,0,none⟩=some (.int .i64 o.k) from o0;rw [hk] at o0;clear hk hR Al CD s0 s1 s2 s3 s4 s5 s6 s7 s8 s9 s10 s11 s12 s13 s14 s15 s16 s17 s18 s19 e0 e1 e2 e3 e4 e5 e6 e7 e8 e9 e10 e11 e12 e13 e14;unfold opA at *;go_enter Tryz.func26,Tryz.ntmps26;go_upto_region 1 with fail;rw [← Ab];clear Ab;generalize hg:(za6 st.c st.l sq o)=ev at *;clear hg;go_wp2_with fail;refine AK.out.mono ?_;rintro r w3 hE;unfold EvE at hE;obtain ⟨rfl,hE⟩:=hE;have HG:=zh hE;clear hE AK;go_wp2_with fail;go_ret;unfold EvE;exact ⟨by first | rfl | trivial,HG.out⟩
theorem zkL {w0 w:World} {p:Nat} {h:Ch} {a:StA} {cf:Cfg} {st:PS} {nb k:Nat} {Q:Nat→Prop} {x sq:Nat} {o:PO} {da:Option Addr} {dn dc:Nat} {ma:Option Addr} {mn mc:Nat} (H:EvC w0 w p h a cf st nb k Q x h (Chg.nil st.c sq) (.slice none 0 0) []) (AE:sq=st.seq+1) (hO:OpM w o da dn ma mn) (hR:PoR o) (hk:o.k=4):
 Calls Tryz.prog 26 #[.pointer (some ⟨p,0,none⟩), .pointer (some ⟨x,0,none⟩), .agg (opA o da dn dc ma mn mc)] w (EvE w0 Q x (zaz st.c st.l sq o)):=by
 obtain ⟨w1,Ab,hX,H1,Cm,HX,AU⟩:=evS H AE hO dc mc;have Al:=zh (fun (W:World) (hW:Below w1.heap.size w1 W)=> (H1.out.stw.below hW).reads);have CD:=zh (fun (W:World) (hW:Below w1.heap.size w1 W)=> (H1.out.chg.below hW).reads);obtain ⟨s0,s1,s2,s3,s4,s5,s6,s7,s8,s9,s10,s11,s12,s13,s14,s15,s16,s17,s18,s19,-⟩:=H1.out.stw.reads;obtain ⟨e0,e1,e2,e3,e4,e5,e6,e7,e8,e9,e10,e11,e12,e13,e14,-⟩:=H1.out.chg.reads;obtain ⟨o0,o1,o2,o3,o4,o5,o6,o7⟩:=rd8 (w:=w1) hX;clear H AE hO hX;have AK:=zh (zlQ (dc:=dc) (mc:=mc) H1.out HX.out.2.2.1 HX.out.2.2.2 (hR.vol (by omega)) (hR.place (by omega)) hk)
 unfold opA at AK;rw [hk] at AK;replace o0:=show w1.cell? ⟨w.heap.size,0,none⟩=some (.int .i64 o.k) from o0;rw [hk] at o0;clear hk hR Al CD s0 s1 s2 s3 s4 s5 s6 s7 s8 s9 s10 s11 s12 s13 s14 s15 s16 s17 s18 s19 e0 e1 e2 e3 e4 e5 e6 e7 e8 e9 e10 e11 e12 e13 e14;unfold opA at *;go_enter Tryz.func26,Tryz.ntmps26;go_upto_region 1 with fail;rw [← Ab];clear Ab;generalize hg:(zaz st.c st.l sq o)=ev at *;clear hg;go_wp2_with fail;refine AK.out.mono ?_;rintro r w3 hE;unfold EvE at hE;obtain ⟨rfl,hE⟩:=hE;have HG:=zh hE;clear hE AK;go_wp2_with fail;go_ret;unfold EvE;exact ⟨by first | rfl | trivial,HG.out⟩
theorem zkM {w0 w:World} {p:Nat} {h:Ch} {a:StA} {cf:Cfg} {st:PS} {nb k:Nat} {Q:Nat→Prop} {x sq:Nat} {o:PO} {da:Option Addr} {dn dc:Nat} {ma:Option Addr} {mn mc:Nat} (H:EvC w0 w p h a cf st nb k Q x h (Chg.nil st.c sq) (.slice none 0 0) []) (AE:sq=st.seq+1) (hO:OpM w o da dn ma mn) (hR:PoR o) (hk:o.k=5):
 Calls Tryz.prog 26 #[.pointer (some ⟨p,0,none⟩), .pointer (some ⟨x,0,none⟩), .agg (opA o da dn dc ma mn mc)] w (EvE w0 Q x (zaz st.c st.l sq o)):=by
 obtain ⟨w1,Ab,hX,H1,Cm,HX,AU⟩:=evS H AE hO dc mc;have Al:=zh (fun (W:World) (hW:Below w1.heap.size w1 W)=> (H1.out.stw.below hW).reads);have CD:=zh (fun (W:World) (hW:Below w1.heap.size w1 W)=> (H1.out.chg.below hW).reads);obtain ⟨s0,s1,s2,s3,s4,s5,s6,s7,s8,s9,s10,s11,s12,s13,s14,s15,s16,s17,s18,s19,-⟩:=H1.out.stw.reads;obtain ⟨e0,e1,e2,e3,e4,e5,e6,e7,e8,e9,e10,e11,e12,e13,e14,-⟩:=H1.out.chg.reads;obtain ⟨o0,o1,o2,o3,o4,o5,o6,o7⟩:=rd8 (w:=w1) hX;clear H AE hO hX;have AK:=zh (zlP (dc:=dc) (mc:=mc) H1.out HX.out.2.2.1 HX.out.2.2.2 (hR.vol (by omega)) (hR.place (by omega)) ⟨hk,hR.count (by omega)⟩)
 unfold opA at AK;rw [hk] at AK;replace o0:=show w1.cell? ⟨w.heap.size,0,none⟩=some (.int .i64 o.k) from o0;rw [hk] at o0;clear hk hR Al CD s0 s1 s2 s3 s4 s5 s6 s7 s8 s9 s10 s11 s12 s13 s14 s15 s16 s17 s18 s19 e0 e1 e2 e3 e4 e5 e6 e7 e8 e9 e10 e11 e12 e13 e14;unfold opA at *;go_enter Tryz.func26,Tryz.ntmps26;go_upto_region 1 with fail;rw [← Ab];clear Ab;generalize hg:(zaz st.c st.l sq o)=ev at *;clear hg;go_wp2_with fail;refine AK.out.mono ?_;rintro r w3 hE;unfold EvE at hE;obtain ⟨rfl,hE⟩:=hE;have HG:=zh hE;clear hE AK;go_wp2_with fail;go_ret;unfold EvE;exact ⟨by first | rfl | trivial,HG.out⟩
theorem ziP {w0 w:World} {p:Nat} {h:Ch} {a:StA} {cf:Cfg} {st:PS} {nb k:Nat} {Q:Nat→Prop} {x sq:Nat} {o:PO} {da:Option Addr} {dn dc:Nat} {ma:Option Addr} {mn mc:Nat} (H:EvC w0 w p h a cf st nb k Q x h (Chg.nil st.c sq) (.slice none 0 0) []) (AE:sq=st.seq+1) (hO:OpM w o da dn ma mn) (hR:PoR o) (hk:o.k=10):
 Calls Tryz.prog 26 #[.pointer (some ⟨p,0,none⟩), .pointer (some ⟨x,0,none⟩), .agg (opA o da dn dc ma mn mc)] w (EvE w0 Q x (zcO st.c st.l sq o)):=by
 obtain ⟨w1,Ab,hX,H1,Cm,HX,AU⟩:=evS H AE hO dc mc;have Al:=zh (fun (W:World) (hW:Below w1.heap.size w1 W)=> (H1.out.stw.below hW).reads);have CD:=zh (fun (W:World) (hW:Below w1.heap.size w1 W)=> (H1.out.chg.below hW).reads);obtain ⟨s0,s1,s2,s3,s4,s5,s6,s7,s8,s9,s10,s11,s12,s13,s14,s15,s16,s17,s18,s19,-⟩:=H1.out.stw.reads;obtain ⟨e0,e1,e2,e3,e4,e5,e6,e7,e8,e9,e10,e11,e12,e13,e14,-⟩:=H1.out.chg.reads;obtain ⟨o0,o1,o2,o3,o4,o5,o6,o7⟩:=rd8 (w:=w1) hX;clear H AE hO hX;have AK:=zh (zg1 (dc:=dc) (mc:=mc) H1.out HX.out.2.2.1 HX.out.2.2.2 (hR.vol (by omega)))
 unfold opA at AK;rw [hk] at AK;replace o0:=show w1.cell? ⟨w.heap.size,0,none⟩=some (.int .i64 o.k) from o0;rw [hk] at o0;clear hk hR Al CD s0 s1 s2 s3 s4 s5 s6 s7 s8 s9 s10 s11 s12 s13 s14 s15 s16 s17 s18 s19 e0 e1 e2 e3 e4 e5 e6 e7 e8 e9 e10 e11 e12 e13 e14;unfold opA at *;go_enter Tryz.func26,Tryz.ntmps26;go_upto_region 1 with fail;rw [← Ab];clear Ab;generalize hg:(zcO st.c st.l sq o)=ev at *;clear hg;go_wp2_with fail;refine AK.out.mono ?_;rintro r w3 hE;unfold EvE at hE;obtain ⟨rfl,hE⟩:=hE;have HG:=zh hE;clear hE AK;go_wp2_with fail;go_ret;unfold EvE;exact ⟨by first | rfl | trivial,HG.out⟩
theorem ziQ {w0 w:World} {p:Nat} {h:Ch} {a:StA} {cf:Cfg} {st:PS} {nb k:Nat} {Q:Nat→Prop} {x sq:Nat} {o:PO} {da:Option Addr} {dn dc:Nat} {ma:Option Addr} {mn mc:Nat} (H:EvC w0 w p h a cf st nb k Q x h (Chg.nil st.c sq) (.slice none 0 0) []) (AE:sq=st.seq+1) (hO:OpM w o da dn ma mn) (hR:PoR o) (hk:o.k=11):
 Calls Tryz.prog 26 #[.pointer (some ⟨p,0,none⟩), .pointer (some ⟨x,0,none⟩), .agg (opA o da dn dc ma mn mc)] w (EvE w0 Q x (zcO st.c st.l sq o)):=by
 obtain ⟨w1,Ab,hX,H1,Cm,HX,AU⟩:=evS H AE hO dc mc;have Al:=zh (fun (W:World) (hW:Below w1.heap.size w1 W)=> (H1.out.stw.below hW).reads);have CD:=zh (fun (W:World) (hW:Below w1.heap.size w1 W)=> (H1.out.chg.below hW).reads);obtain ⟨s0,s1,s2,s3,s4,s5,s6,s7,s8,s9,s10,s11,s12,s13,s14,s15,s16,s17,s18,s19,-⟩:=H1.out.stw.reads;obtain ⟨e0,e1,e2,e3,e4,e5,e6,e7,e8,e9,e10,e11,e12,e13,e14,-⟩:=H1.out.chg.reads;obtain ⟨o0,o1,o2,o3,o4,o5,o6,o7⟩:=rd8 (w:=w1) hX;clear H AE hO hX;have AK:=zh (zg1 (dc:=dc) (mc:=mc) H1.out HX.out.2.2.1 HX.out.2.2.2 (hR.vol (by omega)))
 unfold opA at AK;rw [hk] at AK;replace o0:=show w1.cell? ⟨w.heap.size,0,none⟩=some (.int .i64 o.k) from o0;rw [hk] at o0;clear hk hR Al CD s0 s1 s2 s3 s4 s5 s6 s7 s8 s9 s10 s11 s12 s13 s14 s15 s16 s17 s18 s19 e0 e1 e2 e3 e4 e5 e6 e7 e8 e9 e10 e11 e12 e13 e14;unfold opA at *;go_enter Tryz.func26,Tryz.ntmps26;go_upto_region 1 with fail;rw [← Ab];clear Ab;generalize hg:(zcO st.c st.l sq o)=ev at *;clear hg;go_wp2_with fail;refine AK.out.mono ?_;rintro r w3 hE;unfold EvE at hE;obtain ⟨rfl,hE⟩:=hE;have HG:=zh hE;clear hE AK;go_wp2_with fail;go_ret;unfold EvE;exact ⟨by first | rfl | trivial,HG.out⟩
theorem ziR {w0 w:World} {p:Nat} {h:Ch} {a:StA} {cf:Cfg} {st:PS} {nb k:Nat} {Q:Nat→Prop} {x sq:Nat} {o:PO} {da:Option Addr} {dn dc:Nat} {ma:Option Addr} {mn mc:Nat} (H:EvC w0 w p h a cf st nb k Q x h (Chg.nil st.c sq) (.slice none 0 0) []) (AE:sq=st.seq+1) (hO:OpM w o da dn ma mn) (hR:PoR o) (hk:o.k=12):
 Calls Tryz.prog 26 #[.pointer (some ⟨p,0,none⟩), .pointer (some ⟨x,0,none⟩), .agg (opA o da dn dc ma mn mc)] w (EvE w0 Q x (zcO st.c st.l sq o)):=by
 obtain ⟨w1,Ab,hX,H1,Cm,HX,AU⟩:=evS H AE hO dc mc;have Al:=zh (fun (W:World) (hW:Below w1.heap.size w1 W)=> (H1.out.stw.below hW).reads);have CD:=zh (fun (W:World) (hW:Below w1.heap.size w1 W)=> (H1.out.chg.below hW).reads);obtain ⟨s0,s1,s2,s3,s4,s5,s6,s7,s8,s9,s10,s11,s12,s13,s14,s15,s16,s17,s18,s19,-⟩:=H1.out.stw.reads;obtain ⟨e0,e1,e2,e3,e4,e5,e6,e7,e8,e9,e10,e11,e12,e13,e14,-⟩:=H1.out.chg.reads;obtain ⟨o0,o1,o2,o3,o4,o5,o6,o7⟩:=rd8 (w:=w1) hX;clear H AE hO hX;have AK:=zh (zg1 (dc:=dc) (mc:=mc) H1.out HX.out.2.2.1 HX.out.2.2.2 (hR.vol (by omega)))
 unfold opA at AK;rw [hk] at AK;replace o0:=show w1.cell? ⟨w.heap.size,0,none⟩=some (.int .i64 o.k) from o0;rw [hk] at o0;clear hk hR Al CD s0 s1 s2 s3 s4 s5 s6 s7 s8 s9 s10 s11 s12 s13 s14 s15 s16 s17 s18 s19 e0 e1 e2 e3 e4 e5 e6 e7 e8 e9 e10 e11 e12 e13 e14;unfold opA at *;go_enter Tryz.func26,Tryz.ntmps26;go_upto_region 1 with fail;rw [← Ab];clear Ab;generalize hg:(zcO st.c st.l sq o)=ev at *;clear hg;go_wp2_with fail;refine AK.out.mono ?_;rintro r w3 hE;unfold EvE at hE;obtain ⟨rfl,hE⟩:=hE;have HG:=zh hE;clear hE AK;go_wp2_with fail;go_ret;unfold EvE;exact ⟨by first | rfl | trivial,HG.out⟩
theorem ziS {w0 w:World} {p:Nat} {h:Ch} {a:StA} {cf:Cfg} {st:PS} {nb k:Nat} {Q:Nat→Prop} {x sq:Nat} {o:PO} {da:Option Addr} {dn dc:Nat} {ma:Option Addr} {mn mc:Nat} (H:EvC w0 w p h a cf st nb k Q x h (Chg.nil st.c sq) (.slice none 0 0) []) (AE:sq=st.seq+1) (hO:OpM w o da dn ma mn) (hR:PoR o) (hk:o.k=13):
 Calls Tryz.prog 26 #[.pointer (some ⟨p,0,none⟩), .pointer (some ⟨x,0,none⟩), .agg (opA o da dn dc ma mn mc)] w (EvE w0 Q x (zcW st.c st.l sq o)):=by
 obtain ⟨w1,Ab,hX,H1,Cm,HX,AU⟩:=evS H AE hO dc mc;have Al:=zh (fun (W:World) (hW:Below w1.heap.size w1 W)=> (H1.out.stw.below hW).reads);have CD:=zh (fun (W:World) (hW:Below w1.heap.size w1 W)=> (H1.out.chg.below hW).reads);obtain ⟨s0,s1,s2,s3,s4,s5,s6,s7,s8,s9,s10,s11,s12,s13,s14,s15,s16,s17,s18,s19,-⟩:=H1.out.stw.reads;obtain ⟨e0,e1,e2,e3,e4,e5,e6,e7,e8,e9,e10,e11,e12,e13,e14,-⟩:=H1.out.chg.reads;obtain ⟨o0,o1,o2,o3,o4,o5,o6,o7⟩:=rd8 (w:=w1) hX;clear H AE hO hX;have AK:=zh (znd (dc:=dc) (mc:=mc) H1.out HX.out.2.2.1 HX.out.2.2.2 (hR.vol (by omega)))
 unfold opA at AK;rw [hk] at AK;replace o0:=show w1.cell? ⟨w.heap.size,0,none⟩=some (.int .i64 o.k) from o0;rw [hk] at o0;clear hk hR Al CD s0 s1 s2 s3 s4 s5 s6 s7 s8 s9 s10 s11 s12 s13 s14 s15 s16 s17 s18 s19 e0 e1 e2 e3 e4 e5 e6 e7 e8 e9 e10 e11 e12 e13 e14;unfold opA at *;go_enter Tryz.func26,Tryz.ntmps26;go_upto_region 1 with fail;rw [← Ab];clear Ab;generalize hg:(zcW st.c st.l sq o)=ev at *;clear hg;go_wp2_with fail;refine AK.out.mono ?_;rintro r w3 hE;unfold EvE at hE;obtain ⟨rfl,hE⟩:=hE;have HG:=zh hE;clear hE AK;go_wp2_with fail;go_ret;unfold EvE;exact ⟨by first | rfl | trivial,HG.out⟩
end
end Go.Proofs.YtaoceecfjlkmdaaGreat
