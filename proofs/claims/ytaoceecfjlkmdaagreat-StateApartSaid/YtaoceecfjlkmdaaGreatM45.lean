/- Lemmas of the walks, merged and pressed by press.py. Conditions: those of each theorem. -/
import Derived.Test.YtaoceecfjlkmdaaGreatM41
import Derived.Test.YtaoceecfjlkmdaaGreatM44
import Derived.Test.YtaoceecfjlkmdaaGreatM34
import Derived.Test.YtaoceecfjlkmdaaGreatM21
set_option maxRecDepth 100000
set_option maxHeartbeats 64000000
set_option linter.all false
namespace Go.Proofs.YtaoceecfjlkmdaaGreat
open Tryz
section
open Go.RowKit
theorem zkR {w0 w:World} {p:Nat} {h:Ch} {a:StA} {cf:Cfg} {st:PS} {nb k:Nat} {Q:Nat->Prop} {x sq:Nat} {o:PO} {da:Option Addr} {dn dc:Nat} {ma:Option Addr} {mn mc:Nat} (H:EvC w0 w p h a cf st nb k Q x h (Chg.nil st.c sq) (.slice none 0 0) []) (AE:sq=st.seq+1) (hO:OpM w o da dn ma mn) (hR:PoR o) (Jd:cf.every < 18446744073709551616):
 Calls Tryz.prog 26 #[.pointer (some ⟨p,0,none⟩), .pointer (some ⟨x,0,none⟩), .agg (opA o da dn dc ma mn mc)] w (EvE w0 Q x (zV cf.win cf.every st.c st.l sq st.clock o)):=by
 have hk:=hR.kind;have h3:o.k=1\/o.k=2\/o.k=3\/o.k=4\/o.k=5\/o.k=6\/o.k=7\/o.k=8\/o.k=9\/o.k=10\/o.k=11\/o.k=12\/o.k=13\/o.k=14:=ud;rcases h3 with e | e | e | e | e | e | e | e | e | e | e | e | e | e
 ·rw [show zV cf.win cf.every st.c st.l sq st.clock o=zb1 st.c sq o by unfold zV;rw [if_pos e]]
  exact zkI H AE hO hR e
 ·rw [show zV cf.win cf.every st.c st.l sq st.clock o=zbh st.c sq o by unfold zV;rw [if_neg ud,if_pos e]]
  exact zkJ H AE hO hR e
 ·rw [show zV cf.win cf.every st.c st.l sq st.clock o=za6 st.c st.l sq o by unfold zV;rw [if_neg ud,if_neg ud,if_pos e]]
  exact zkK H AE hO hR e
 ·rw [show zV cf.win cf.every st.c st.l sq st.clock o=zaz st.c st.l sq o by unfold zV;rw [if_neg ud,if_neg ud,if_neg ud,if_pos (.inl e)]]
  exact zkL H AE hO hR e
 ·rw [show zV cf.win cf.every st.c st.l sq st.clock o=zaz st.c st.l sq o by unfold zV;rw [if_neg ud,if_neg ud,if_neg ud,if_pos (.inr e)]]
  exact zkM H AE hO hR e
 ·rw [show zV cf.win cf.every st.c st.l sq st.clock o=zaU st.c sq (st.c.add o.m) by unfold zV;rw [if_neg ud,if_neg ud,if_neg ud,if_neg ud,if_pos e]]
  exact zkN H AE hO hR e
 ·rw [show zV cf.win cf.every st.c st.l sq st.clock o=zhO st.c sq o by unfold zV zhO;rw [if_neg ud,if_neg ud,if_neg ud,if_neg ud,if_neg ud,if_pos e];cases st.c.group o.i <;> rfl]
  exact zkO H AE hO hR e
 ·rw [show zV cf.win cf.every st.c st.l sq st.clock o=zaU st.c sq (st.c.mark o.i sq) by unfold zV;rw [if_neg ud,if_neg ud,if_neg ud,if_neg ud,if_neg ud,if_neg ud,if_pos e]]
  exact zkP H AE hO hR e
 ·rw [show zV cf.win cf.every st.c st.l sq st.clock o=zhN st.c sq o by unfold zV zhN;rw [if_neg ud,if_neg ud,if_neg ud,if_neg ud,if_neg ud,if_neg ud,if_neg ud,if_pos e];cases st.c.book o.i <;> rfl]
  exact zkQ H AE hO hR e
 ·rw [show zV cf.win cf.every st.c st.l sq st.clock o=zcO st.c st.l sq o by unfold zV;rw [if_neg ud,if_neg ud,if_neg ud,if_neg ud,if_neg ud,if_neg ud,if_neg ud,if_neg ud,if_neg ud,if_neg ud]]
  exact ziP H AE hO hR e
 ·rw [show zV cf.win cf.every st.c st.l sq st.clock o=zcO st.c st.l sq o by unfold zV;rw [if_neg ud,if_neg ud,if_neg ud,if_neg ud,if_neg ud,if_neg ud,if_neg ud,if_neg ud,if_neg ud,if_neg ud]]
  exact ziQ H AE hO hR e
 ·rw [show zV cf.win cf.every st.c st.l sq st.clock o=zcO st.c st.l sq o by unfold zV;rw [if_neg ud,if_neg ud,if_neg ud,if_neg ud,if_neg ud,if_neg ud,if_neg ud,if_neg ud,if_neg ud,if_neg ud]]
  exact ziR H AE hO hR e
 ·rw [show zV cf.win cf.every st.c st.l sq st.clock o=zcW st.c st.l sq o by unfold zV;rw [if_neg ud,if_neg ud,if_neg ud,if_neg ud,if_neg ud,if_neg ud,if_neg ud,if_neg ud,if_pos e]]
  exact ziS H AE hO hR e
 rw [show zV cf.win cf.every st.c st.l sq st.clock o=(0,{Chg.nil st.c sq with c:=st.c.retain st.clock cf.win cf.every,prune:=true}) by unfold zV;rw [if_neg ud,if_neg ud,if_neg ud,if_neg ud,if_neg ud,if_neg ud,if_neg ud,if_neg ud,if_neg ud,if_pos e]]
 exact ziT H AE hO hR e Jd
end
section
open Go.RowKit
theorem zjc (w:World) (o:PO) (da:Option Addr) (dn dc:Nat) (ma:Option Addr) (mn mc:Nat):
 Calls Tryz.prog 23 #[.agg (opA o da dn dc ma mn mc)] w fun e w'=> e= .returned (.bool (decide (1<=o.k/\o.k<=14)))/\Below w.heap.size w w':=by
 obtain ⟨w1,Ab⟩:∃w1,w1=w.alloc (.cells (opA o da dn dc ma mn mc) 40):=⟨_,rfl⟩;have Aa:Below w.heap.size w w1:=by rw [Ab];exact zr.alloc zl _
 have hX:w1.heap[w.heap.size]? =some (.cells (opA o da dn dc ma mn mc) 40 (0,0)):=by rw [Ab];exact heap_alloc_new w _
 have HB:=zh Aa;have o0:=cell_of_row w1 _ 0 _ _ _ hX;unfold opA at *;clear Aa hX
 by_cases h1:1<=o.k
 ·by_cases h2:o.k<=14
  ·have HK:=zh (show decide (1<=o.k/\o.k<=14)=true from decide_eq_true ⟨h1,h2⟩);have e1:decide (o.k ≥ 1)=true:=decide_eq_true h1;have e2:decide (o.k<=14)=true:=decide_eq_true h2;go_in;go_upto_region 1 with fail;rw [<- Ab];clear Ab;go_wp2_with fail;go_ret;exact ⟨by first | rfl | trivial | (simp [*];done) | (simp;omega),HB.out⟩
  have HK:=zh (show decide (1<=o.k/\o.k<=14)=false from decide_eq_false fun h=> h2 h.2);have e1:decide (o.k ≥ 1)=true:=decide_eq_true h1;have e2:decide (o.k<=14)=false:=decide_eq_false h2;go_in;go_upto_region 1 with fail;rw [<- Ab];clear Ab;go_wp2_with fail;go_ret;exact ⟨by first | rfl | trivial | (simp [*];done) | (simp;omega),HB.out⟩
 have HK:=zh (show decide (1<=o.k/\o.k<=14)=false from decide_eq_false fun h=> h1 h.1);have e1:decide (o.k ≥ 1)=false:=decide_eq_false h1;go_in;go_upto_region 1 with fail;rw [<- Ab];clear Ab;go_wp2_with fail;go_ret;exact ⟨by first | rfl | trivial | (simp [*];done) | (simp;omega),HB.out⟩
theorem zk5 {w:World} {a:Option Addr} {n:Nat} {l:List Int} (h:zM zcm 1 w a n l):Is .i64 w a n l:=by
 refine ⟨by rw [List.length_map];exact h.1,fun i v hv=> ?_⟩
 rw [List.getElem?_map] at hv;obtain ⟨z,hz,rfl⟩:=Option.map_eq_some_iff.1 hv;obtain ⟨b,o,rfl,hc⟩:=h.2 i z hz;exact ⟨b,o,rfl,by simpa using hc 0 _ rfl⟩
theorem zbB {w W:World} {b:Addr} {u:Value} (hW:Below w.heap.size w W) (h:w.cell? b=some u):W.cell? b=some u:=by
 rcases Nat.lt_or_ge b.block w.heap.size with h1 | h1
 ·have h2:=hW.block b.block h1;unfold World.cell? at h ⊢;rw [h2];exact h
 simp [World.cell?,Array.getElem?_eq_none h1] at h
def TryE (w0:World) (Q:Nat->Prop) (r:Nat × Chg) (e:Ending) (w':World):Prop:=∃v,e= .returned (.tuple #[v, .int .i64 (r.1:Int)])/\Below w0.heap.size w0 w'/\(r.1≠0->v= .pointer none)/\(r.1=0->∃x hc pv pl,v= .pointer (some ⟨x,0,none⟩)/\ChM Q w0.heap.size w' x hc r.2 pv pl)
theorem ChM.new {Q:Nat->Prop} {w0 w:World} {h:Ch} {c:Ct} (hb:Below w0.heap.size w0 w) (hc:zaV Q w h c) (hQ:∀j,Q j->j < w0.heap.size) (s:Nat):ChM Q w0.heap.size (w.alloc (.cells (zb8 h (Chg.nil c s) (.slice none 0 0)) 81)) w.heap.size h (Chg.nil c s) (.slice none 0 0) []:=by
 refine ⟨heap_alloc_new w _,hb.size, ?_,World.ownsRow_nil _ _ _ _,(fun e=> by cases e),rfl,fun y hy=> by cases hy⟩
 refine hc.outs (zD.of_below (zr.alloc zl _)) fun j hj=> ?_;rcases hj with hj | hj | hj
 ·exact .inl hj
 ·exact .inr ud
 cases hj
theorem ChM.times1 {Q:Nat->Prop} {B:Nat} {w:World} {x:Nat} {h:Ch} {g:Chg} {pv:Value} {pl:List Ph} (X:ChM Q B w x h g pv pl) {ta:Option Addr} {tc:Nat} {l:List Mk} (hr:zM zbZ 2 w ta l.length l) (Gd:∀b o,ta=some ⟨b,o,none⟩->¬(Q b\/b=x\/pv.ownBlock=some b)):
 ChM Q B (w.setCell ⟨x,8,none⟩ (.slice ta l.length tc)) x {h with ta:=ta,tc:=tc} {g with c:={g.c with times:=l}} pv pl:=by
 have hc:=X.cat;exact X.turn (heap_setCell_same w x 8 _ _ _ X.box) (zq w ⟨x,8,none⟩ _) ⟨hc.vols,hc.volsE,hc.groups,hc.groupsE,hc.books,hc.booksE,hc.kept,⟨hr,fun b o e _=> Gd b o e⟩⟩ rfl
end
section
open Go.RowKit
theorem zjB {w:World} {p:Nat} {h:Ch} {a:StA} {cf:Cfg} {st:PS} {nb k:Nat} {Q:Nat->Prop} {o:PO} {da:Option Addr} {dn dc:Nat} {ma:Option Addr} {mn mc:Nat} (H:StW w p h a cf st nb k Q) (hO:OpM w o da dn ma mn) (Jd:cf.every < 18446744073709551616):
 Calls Tryz.prog 14 #[.pointer (some ⟨p,0,none⟩), .agg (opA o da dn dc ma mn mc)] w (TryE w Q (zc9 cf.win cf.every st.c st.l st.seq st.clock o)):=by
 obtain ⟨w1,Ab⟩:∃w1,w1=w.alloc (.cells (opA o da dn dc ma mn mc) 40):=⟨_,rfl⟩;have Aa:Below w.heap.size w w1:=by rw [Ab];exact zr.alloc zl _
 have hX:w1.heap[w.heap.size]? =some (.cells (opA o da dn dc ma mn mc) 40 (0,0)):=by rw [Ab];exact heap_alloc_new w _
 have H0:=zh (zn H (zn hO Jd));have Ak:=zh Aa;have CI:=(zg hX).1;have AU:=zh (fun (W:World) (hW:Below w1.heap.size w1 W)=> (hW.block w.heap.size CI).trans hX);have DQ:=zh (fun (W:World) (hW:Below w1.heap.size w1 W)=> show Below w.heap.size w W from Ak.out.trans (hW.mono Ak.out.size));obtain ⟨o0,o1,o2,o3,o4,o5,o6,o7⟩:=rd8 (w:=w1) hX;have Br:=zh (zjc w1 o da dn dc ma mn mc);have G0:=zh (fun (W:World) (hW:Below w1.heap.size w1 W)=> zje o.k o.v o.i o.b o.n o.pt da ma dn dc mn mc o.m W (zk5 (H0.out.2.1.below (DQ.out W hW)).ms) (by have:=H0.out.2.1.few.2;omega))
 have SL:dn=o.d.length:=by have:=H0.out.2.1.bs.length;omega
 obtain ⟨be,Hv⟩:∃be,decide (1<=o.k/\o.k<=14)=be:=⟨_,rfl⟩;obtain ⟨br,AA⟩:∃br,o.right=br:=⟨_,rfl⟩;have Sr:zeC o.k o.v o.i o.b o.n dn o.m=br:=by rw [SL];exact AA
 rw [Hv] at Br;rw [Sr] at G0;have HC:=zh (zn Hv AA);clear H hO Jd Aa hX CI SL Hv AA Sr;unfold opA at *;have J4:=zh (fun (W:World) (hW:Below w1.heap.size w1 W)=> show W.cell? ⟨w.heap.size,0,none⟩=some (.int .i64 o.k)/\W.cell? ⟨w.heap.size,1,none⟩=some (.int .i64 o.v)/\W.cell? ⟨w.heap.size,2,none⟩=some (.int .i64 o.i)/\W.cell? ⟨w.heap.size,3,none⟩=some (.int .i64 o.b)/\W.cell? ⟨w.heap.size,4,none⟩=some (.int .i64 o.n)/\W.cell? ⟨w.heap.size,5,none⟩=some (.int .u64 o.pt)/\W.cell? ⟨w.heap.size,6,none⟩=some (.slice da dn dc)/\W.cell? ⟨w.heap.size,7,none⟩=some (.slice ma mn mc) from ⟨cell_of_row W _ 0 _ _ _ (AU.out W hW),cell_of_row W _ 1 _ _ _ (AU.out W hW),cell_of_row W _ 2 _ _ _ (AU.out W hW),cell_of_row W _ 3 _ _ _ (AU.out W hW),cell_of_row W _ 4 _ _ _ (AU.out W hW),cell_of_row W _ 5 _ _ _ (AU.out W hW),cell_of_row W _ 6 _ _ _ (AU.out W hW),cell_of_row W _ 7 _ _ _ (AU.out W hW)⟩)
 cases be with
 | false=>
   have hP:zc9 cf.win cf.every st.c st.l st.seq st.clock o=(10,Chg.nil st.c st.seq):=by unfold zc9;rw [if_pos (.inl (of_decide_eq_false HC.out.1))]
   rw [hP];clear hP;go_in;go_upto_region 1 with fail;rw [<- Ab];clear Ab;go_wp2_with fail;refine Br.out.mono ?_;rintro r w2 ⟨rfl,Ae⟩;have Ap:=zh (Ak.out.trans (Ae.mono Ak.out.size));clear Ae Br G0 J4 o0 o1 o2 o3 o4 o5 o6 o7;go_wp2_with fail;go_ret2;exact ⟨.pointer none,rfl,Ap.out,fun _=> rfl,fun e=> by cases e⟩
 | true=>
   cases br with
   | false=>
     have hP:zc9 cf.win cf.every st.c st.l st.seq st.clock o=(10,Chg.nil st.c st.seq):=by unfold zc9;rw [if_pos (.inr HC.out.2)]
     rw [hP];clear hP;go_in;go_upto_region 1 with fail;rw [<- Ab];clear Ab;go_wp2_with fail;refine Br.out.mono ?_;rintro r w2 ⟨rfl,Ae⟩;have Cr:=Ae;have EI:=zh Ae;obtain ⟨o0,o1,o2,o3,o4,o5,o6,o7⟩:=J4.out w2 Ae;clear Ae Br Cr;go_wp2_with fail;refine (G0.out w2 EI.out).mono ?_;rintro r w3 ⟨rfl,Am⟩;have Eg:=zh (EI.out.trans (Am.mono EI.out.size));clear Am G0 o0 o1 o2 o3 o4 o5 o6 o7;go_wp2_with fail;go_ret2;exact ⟨.pointer none,rfl,DQ.out _ Eg.out,fun _=> rfl,fun e=> by cases e⟩
   | true=>
     by_cases hs:st.seq=18446744073709551615
     ·have hP:zc9 cf.win cf.every st.c st.l st.seq st.clock o=(50,Chg.nil st.c st.seq):=by unfold zc9;rw [if_neg uac,if_pos hs]
      rw [hP];clear hP;have HS:=zh hs;clear hs;go_in;go_upto_region 1 with fail;rw [<- Ab];clear Ab;go_wp2_with fail;refine Br.out.mono ?_;rintro r w2 ⟨rfl,Ae⟩;have Cr:=Ae;have EI:=zh Ae;obtain ⟨o0,o1,o2,o3,o4,o5,o6,o7⟩:=J4.out w2 Ae;clear Ae Br Cr;go_wp2_with fail;refine (G0.out w2 EI.out).mono ?_;rintro r w3 ⟨rfl,Am⟩;have Eg:=zh (EI.out.trans (Am.mono EI.out.size));clear Am G0 o0 o1 o2 o3 o4 o5 o6 o7;have s18:=(H0.out.1.below (DQ.out w3 Eg.out)).reads.2.2.2.2.2.2.2.2.2.2.2.2.2.2.2.2.2.2.1;have HN:=zh (zj5 st.seq H0.out.1.inv.seq w3);rw [show zmR st.seq= .tuple #[.int .u64 0, .int .i64 50] from if_pos HS.out] at HN;go_wp2_with fail;refine HN.out.mono ?_;rintro r w4 ⟨rfl,rfl⟩;clear s18 HN;go_wp2_with fail;go_ret2;exact ⟨.pointer none,rfl,DQ.out _ Eg.out,fun _=> rfl,fun e=> by cases e⟩
     have hP:zc9 cf.win cf.every st.c st.l st.seq st.clock o=(let r:=zV cf.win cf.every st.c st.l (st.seq+1) st.clock o;if r.1≠0 then r else let t:=za7 r.2.c.times (st.seq+1) st.clock;if t.1≠0 then (t.1,r.2) else (0,{r.2 with c:={r.2.c with times:=t.2}})):=by unfold zc9;rw [if_neg uac,if_neg hs]
     obtain ⟨sq,AE⟩:∃sq,sq=st.seq+1:=⟨_,rfl⟩;rw [<- AE] at hP;obtain ⟨ev,hr⟩:∃ev,zV cf.win cf.every st.c st.l sq st.clock o=ev:=⟨_,rfl⟩;rw [hr] at hP;obtain ⟨res,BQ⟩:∃res,zc9 cf.win cf.every st.c st.l st.seq st.clock o=res:=⟨_,rfl⟩;rw [BQ] at hP;rw [BQ];have Hj:=zh hP;clear BQ;have hR:=PoR.of (of_decide_eq_true HC.out.1) HC.out.2;have HR:=zh (zn hR (zn hr AE));have Rr:=zh (show zmR st.seq= .tuple #[.int .u64 (sq:Int), .int .i64 0] from by rw [AE];exact if_neg hs)
     clear AE;have HS:=zh hs;clear hs hP hr hR;go_in;go_upto_region 1 with fail;rw [<- Ab];clear Ab;go_wp2_with fail;refine Br.out.mono ?_;rintro r w2 ⟨rfl,Ae⟩;have Cr:=Ae;have EI:=zh Ae;obtain ⟨o0,o1,o2,o3,o4,o5,o6,o7⟩:=J4.out w2 Ae;clear Ae Br Cr;go_wp2_with fail;refine (G0.out w2 EI.out).mono ?_;rintro r w3 ⟨rfl,Am⟩;have Eg:=zh (EI.out.trans (Am.mono EI.out.size));clear Am G0 o0 o1 o2 o3 o4 o5 o6 o7;have s18:=(H0.out.1.below (DQ.out w3 Eg.out)).reads.2.2.2.2.2.2.2.2.2.2.2.2.2.2.2.2.2.2.1;have HN:=zh (zj5 st.seq H0.out.1.inv.seq w3);rw [Rr.out] at HN;go_wp2_with fail;refine HN.out.mono ?_;rintro r w4 ⟨rfl,rfl⟩;have Ey:=(H0.out.1.below (DQ.out w4 Eg.out));have SG:=ChM.new (s:=sq) (DQ.out w4 Eg.out) Ey.cat H0.out.1.qlt;have CH:EvC w (w4.alloc (.cells (zb8 h (Chg.nil st.c sq) (.slice none 0 0)) 81)) p h a cf st nb k Q w4.heap.size h (Chg.nil st.c sq) (.slice none 0 0) []:=⟨H0.out.1,(DQ.out w4 Eg.out).alloc (DQ.out w4 Eg.out).size _,SG⟩;have U9:Below w4.heap.size w4 (w4.alloc (.cells (zb8 h (Chg.nil st.c sq) (.slice none 0 0)) 81)):=zr.alloc zl _;obtain ⟨s0,s1,s2,s3,s4,s5,s6,s7,s8,-,-,-,-,-,-,-,-,-,-,-,-⟩:=Ey.reads;have HA:=zh (zn CH U9);clear s18 HN Ey SG CH U9;go_upto_region 6 with fail;go_upto_region 7 with fail;obtain ⟨w5,Co⟩:∃w5,w5=w4.alloc (.cells #[.int .i64 (st.c.nv:Int), .int .i64 (st.c.ng:Int), .int .i64 (st.c.nb:Int), .int .u64 (st.c.fl:Int), .slice h.va st.c.vols.length h.vc, .slice h.ga st.c.groups.length h.gc, .slice h.ba st.c.books.length h.bc, .slice h.ka st.c.kept.length h.kc, .slice h.ta st.c.times.length h.tc, .int .i64 0, .int .i64 0, .slice none 0 0, .int .i64 0, .bool false, .int .u64 (sq:Int)] 81):=⟨_,rfl⟩;rw [<- Co];have Nf:EvC w w5 p h a cf st nb k Q w4.heap.size h (Chg.nil st.c sq) (.slice none 0 0) []:=by rw [Co];exact HA.out.1
     have Ag:Below w1.heap.size w1 w5:=Eg.out.trans ((show Below w4.heap.size w4 w5 by rw [Co];exact HA.out.2).mono Eg.out.size)
     have JW:=zh (zkR (dc:=dc) (mc:=mc) Nf HR.out.2.2 (H0.out.2.1.below (DQ.out w5 Ag)) HR.out.1 H0.out.2.2);rw [HR.out.2.1] at JW;unfold opA at JW;obtain ⟨o0,o1,o2,o3,o4,o5,o6,o7⟩:=J4.out w5 Ag;obtain ⟨xb,GY⟩:∃xb,w4.heap.size=xb:=⟨_,rfl⟩;rw [GY] at JW;rw [GY];clear Nf Ag Co HA s0 s1 s2 s3 s4 s5 s6 s7 s8;go_wp2_with fail;refine JW.out.mono ?_;rintro r w6 hE;unfold EvE at hE;obtain ⟨rfl,AT,AX⟩:=hE;clear o0 o1 o2 o3 o4 o5 o6 o7 JW;have DW:=zh AT;clear AT
     by_cases hz:ev.1=0
     ·obtain ⟨hc,pv,pl,X6⟩:=AX hz;have ku:=zhP H0.out.1.inv.ct HR.out.1 (g:=ev.2) (by rw [<- HR.out.2.2,HR.out.2.1];exact Prod.ext hz rfl)
      have Ui:=ku.2.len;have ZY:=zh (fun (W:World) (hW:Below w6.heap.size w6 W)=> zlM (c:=hc.tc) (X6.cat.below hW).times.row ud sq st.clock);have UK:=zh X6;have y8:=X6.reads.2.2.2.2.2.2.2.2.1;have s19:=(H0.out.1.below DW.out).reads.2.2.2.2.2.2.2.2.2.2.2.2.2.2.2.2.2.2.2.1;have HZ:=zh hz;rw [hz];clear ku Ui X6 AX hz;have Dy:=zh (fun (W:World) (hW:Below w6.heap.size w6 W)=> show W.cell? ⟨p,19,none⟩=some (.int .u64 (st.clock:Int))/\W.cell? ⟨xb,8,none⟩=some (.slice hc.ta ev.2.c.times.length hc.tc) from ⟨zbB hW s19,zbB hW y8⟩);have Cu:Below w6.heap.size w6 w6.drew:=zr.drew;go_wp2_with fail
      go_region_held3 (fun W=> W.cell? ⟨p,19,none⟩=some (.int .u64 (st.clock:Int))/\W.cell? ⟨xb,8,none⟩=some (.slice hc.ta ev.2.c.times.length hc.tc)) (first | with_reducible exact Bg | go_keep)
       ((go_at_call 27;((with_reducible refine (ZY.out _ Cu).mono ?_);rintro r w7 ⟨v,rfl,ho,Bz⟩;have Bz:Below w6.heap.size w6 w7:=Cu.trans Bz;have Bg:=Dy.out w7 Bz)))
      clear Bg Cu;have HO:=zh (zn ho Bz);clear ho Bz ZY Dy y8 s19
      by_cases hn:(za7 ev.2.c.times sq st.clock).1=0
      ·obtain ⟨ta,tc,rfl,Ah,-,Gd⟩:=zK.row zR HO.out.1;have X7:=UK.out.below HO.out.2;have X8:=X7.times1 (tc:=tc) Ah (fun b o e hq=> by
        have h1:w6.heap.size<=b:=(Gd b o e).1;rcases hq with hq | hq | hq
        ·have:=H0.out.1.qlt b hq;have:=DW.out.size
         omega
        ·have:=UK.out.xlt
         omega
        have:=(UK.out.puts.lt b hq).2
        omega)
       have y8:=X7.reads.2.2.2.2.2.2.2.2.1;have g8:=X7.reads.2.2.2.2.2.2.2.2.2.2.2.2.2.2.2 8;have WQ:=zh X8;have UL:=zh X7.lo;have vg:=zh hn;rw [hn];clear X7 X8 Ah Gd hn;go_wp2_with fail;go_ret2;have hR:=Hj.out;rw [if_neg (by rw [HZ.out];decide),if_neg (by rw [vg.out];decide)] at hR
       rw [hR];exact ⟨.pointer (some ⟨xb,0,none⟩),rfl,(DW.out.trans (HO.out.2.mono DW.out.size)).setCell (p:=⟨xb,8,none⟩) UL.out _,fun e=> absurd rfl e,fun _=> ⟨xb,_,pv,pl,rfl,WQ.out⟩⟩
      have C5:(((za7 ev.2.c.times sq st.clock).1:Int) !=0)=true:=uo;have ZQ:=zh hn;go_wp2_with fail;go_ret2;have hR:=Hj.out;rw [if_neg (by rw [HZ.out];decide),if_pos ZQ.out] at hR
      rw [hR];exact ⟨.pointer none,rfl,DW.out.trans (HO.out.2.mono DW.out.size),fun _=> rfl,fun e=> absurd e ZQ.out⟩
     have Q9:((ev.1:Int) !=0)=true:=uo;have HZ:=zh hz;go_wp2_with fail;go_ret2;have hR:=Hj.out;rw [if_pos HZ.out] at hR;rw [hR];exact ⟨.pointer none,rfl,DW.out,fun _=> rfl,fun e=> absurd e HZ.out⟩
end
section
open Go.RowKit
inductive zdr (win ev nb:Nat):PS->List PO->PS->Prop
 | nil (st:PS):zdr win ev nb st [] st
 | snoc {st st1:PS} {l:List PO} {o:PO} {x:Nat}:zdr win ev nb st l st1->zcn nb st1.l x->zdr win ev nb st (l++ [o]) (zal win ev st1 o x)
theorem zou {nb k x win ev:Nat} {st:PS} {o:PO} (h:StI nb st k):st.seq<=(zal win ev st o x).seq:=by
 unfold zal
 split
 ·unfold zlK
  split <;> exact zl
 split
 ·exact zl
 rename_i _ h0
 obtain ⟨-,hs,hg⟩:=zem (window:=win) h.ct (g:=(zc9 win ev st.c st.l st.seq st.clock o).2) (every:=ev) (o:=o) (l:=st.l) (Prod.ext uan rfl);have:=hg.seq
 show st.seq<=(zc9 win ev st.c st.l st.seq st.clock o).2.seq
 omega
theorem zdr.inv {win ev nb k:Nat} {st st':PS} {l:List PO} (h:zdr win ev nb st l st') (hi:StI nb st k):StI nb st' (k+l.length)/\st.seq<=st'.seq:=by
 induction h with
 | nil=> exact ⟨hi,zl⟩
 | snoc h1 hx ih=>
   obtain ⟨h2,h3⟩:=ih;refine ⟨?_,zs h3 (zou h2)⟩;rw [List.length_append,List.length_singleton,<- Nat.add_assoc];exact zhh h2 hx.2.1
theorem zdr.vol {win ev nb k:Nat} {st st':PS} {l:List PO} (h:zdr win ev nb st l st') (hi:StI nb st k) (hv:StV st):StV st':=by
 induction h with
 | nil=> exact hv
 | snoc h1 hx ih=> exact zqR (h1.inv hi).1 ih
theorem zdr.keeps {win ev nb k:Nat} {st st':PS} {l:List PO} (h:zdr win ev nb st l st') (hi:StI nb st k) {v b:Int} {t:Nat} (ht:t<=st.seq) {d:List UInt8} (hr:zbo st' v b t=(0,d)):zbo st v b t=(0,d):=by
 induction h with
 | nil=> exact hr
 | snoc h1 hx ih=>
   obtain ⟨h2,h3⟩:=h1.inv hi;exact ih (zlG h2 hx (zs ht h3) hr)
theorem zdr.cons_nil {win ev nb:Nat} {st:PS} {o:PO} {x:Nat} (hx:zcn nb st.l x):zdr win ev nb st [o] (zal win ev st o x):=by
 have:=zdr.snoc (o:=o) (zdr.nil (win:=win) (ev:=ev) (nb:=nb) st) hx
 simpa using this
def DoX (w:World) (p:Nat) (a:StA) (cf:Cfg) (st:PS) (nb k:Nat) (Q:Nat->Prop) (o:PO) (w':World):Prop:=
 ∃x h' Q',zcn nb st.l x/\StW w' p h' a cf (zal cf.win cf.every st o x) nb (k+1) Q'/\StG w Q w' Q'
theorem StM.clocked {w:World} {p:Nat} {h:Ch} {a:StA} {cf:Cfg} {st:PS} {nb k:Nat} {F:List Nat} {L:List Uc} {E:Nat->Prop} {s:Nat} {lv:Value} {xs:List Sh} {ys:List Wh} {D:Nat->Prop} {Q:Nat->Prop} (H:StM w p h a cf st nb k F L E s lv xs ys D Q) (t:Nat):
 StM (w.setCell ⟨p,19,none⟩ (.int .u64 (t:Int))) p h a cf {st with clock:=t} nb k F L E s lv xs ys D Q:=by
 have hb:(w.setCell ⟨p,19,none⟩ (.int .u64 (t:Int))).heap[p]? =some (.cells (zcH h a cf {st with clock:=t}) 60 (0,0)):=heap_setCell_same _ p 19 _ _ _ H.box
 have ho:zD (fun j=> j=p) w (w.setCell ⟨p,19,none⟩ (.int .u64 (t:Int))):=zD.turn (zq w ⟨p,19,none⟩ _) rfl;have RL:=H.hist.lt;have W8:=H.disk.lt;have Vx:∀j,j=p->Q j:=fun j hj=> by rw [hj];exact (H.dom p).2 (.inl rfl)
 exact ⟨hb,H.cat.outs (ho.more Vx) (fun _ h=> .inl h),H.hist.kept (ho.kept RL fun j hj e=> H.ne.1 uba),H.hinv,H.disk.outs (fun j hj=> ho.block j (W8 j hj) fun e=> H.ne.2.1 uba) (ho.more Vx) (fun _ h=> .inl h),H.dom,H.ne,H.pages,H.room,H.many⟩
theorem DoX.same {w w':World} {p:Nat} {h:Ch} {a:StA} {cf:Cfg} {st:PS} {nb k:Nat} {Q:Nat->Prop} {o:PO} (H:StW w p h a cf st nb k Q) (hk:k<=61) {fx:Nat} (GD:zcn nb st.l fx) (hb:Below w.heap.size w w') (AO:zal cf.win cf.every st o fx=st):DoX w p a cf st nb k Q o w':=by
 obtain ⟨F,L,E,s,lv,xs,ys,D,hM⟩:=(H.below hb).mem;refine ⟨fx,h,Q,GD,⟨zhh H.inv GD.2.1,H.nbl,ud,F,L,E,s,lv,xs,ys,D, ?_⟩,StG.below Q hb⟩;rw [AO];exact hM.more (Nat.le_succ _)
theorem DoX.clock {w w':World} {p:Nat} {h:Ch} {a:StA} {cf:Cfg} {st:PS} {nb k:Nat} {Q:Nat->Prop} {o:PO} (H:StW w p h a cf st nb k Q) (hk:k<=61) {fx:Nat} (GD:zcn nb st.l fx) (hb:Below w.heap.size w w') {t:Nat} (AO:zal cf.win cf.every st o fx={st with clock:=t}):DoX w p a cf st nb k Q o (w'.setCell ⟨p,19,none⟩ (.int .u64 (t:Int))):=by
 obtain ⟨F,L,E,s,lv,xs,ys,D,hM⟩:=(H.below hb).mem;refine ⟨fx,h,Q,GD,⟨zhh H.inv GD.2.1,H.nbl,ud,F,L,E,s,lv,xs,ys,D, ?_⟩,(StG.below Q hb).trans ⟨fun _ h=> .inl h,zD.turn (zq w' ⟨p,19,none⟩ _) ((hM.dom p).2 (.inl rfl))⟩⟩;rw [AO];exact (hM.clocked t).more (Nat.le_succ _)
theorem DoX.made {w w':World} {p:Nat} {h:Ch} {a:StA} {cf:Cfg} {st:PS} {nb k:Nat} {Q:Nat->Prop} {o:PO} {w2:World} (hb:Below w.heap.size w w2) (LV:o.k≠18) (h0:(zc9 cf.win cf.every st.c st.l st.seq st.clock o).1=0) (hA:∃x Q',zcn nb st.l x/\StW w' p h a cf (zcJ st (zc9 cf.win cf.every st.c st.l st.seq st.clock o).2 x) nb (k+1) Q'/\StG w2 Q w' Q'):DoX w p a cf st nb k Q o w':=by
 obtain ⟨x,Q',hx,hW,hG⟩:=hA;refine ⟨x,h,Q',hx, ?_,(StG.below Q hb).trans hG⟩;have e:zal cf.win cf.every st o x=zcJ st (zc9 cf.win cf.every st.c st.l st.seq st.clock o).2 x:=by
  unfold zal;rw [if_neg LV,if_neg (fun h=> h h0)]
 rw [e];exact hW
theorem zoH {w:World} {p:Nat} {h:Ch} {a:StA} {cf:Cfg} {st:PS} {nb k:Nat} {Q:Nat->Prop} {o:PO} {da:Option Addr} {dn dc:Nat} {ma:Option Addr} {mn mc:Nat} (H:StW w p h a cf st nb k Q) (hO:OpM w o da dn ma mn) (CH:cf.every < 18446744073709551616) (hk:k<=61) (G9:k < nb):
 Calls Tryz.prog 9 #[.pointer (some ⟨p,0,none⟩), .agg (opA o da dn dc ma mn mc)] w fun e w'=> e= .returned (.tuple #[])/\DoX w p a cf st nb k Q o w':=by
 obtain ⟨w1,Ab⟩:∃w1,w1=w.alloc (.cells (opA o da dn dc ma mn mc) 40):=⟨_,rfl⟩;have Aa:Below w.heap.size w w1:=by rw [Ab];exact zr.alloc zl _
 have hX:w1.heap[w.heap.size]? =some (.cells (opA o da dn dc ma mn mc) 40 (0,0)):=by rw [Ab];exact heap_alloc_new w _
 have o0:w1.cell? ⟨w.heap.size,0,none⟩=some (.int .i64 o.k):=cell_of_row w1 _ 0 _ _ _ hX;have o1:w1.cell? ⟨w.heap.size,1,none⟩=some (.int .i64 o.v):=cell_of_row w1 _ 1 _ _ _ hX;have o2:w1.cell? ⟨w.heap.size,2,none⟩=some (.int .i64 o.i):=cell_of_row w1 _ 2 _ _ _ hX;have o3:w1.cell? ⟨w.heap.size,3,none⟩=some (.int .i64 o.b):=cell_of_row w1 _ 3 _ _ _ hX;have o4:w1.cell? ⟨w.heap.size,4,none⟩=some (.int .i64 o.n):=cell_of_row w1 _ 4 _ _ _ hX;have o5:w1.cell? ⟨w.heap.size,5,none⟩=some (.int .u64 o.pt):=cell_of_row w1 _ 5 _ _ _ hX;have o6:w1.cell? ⟨w.heap.size,6,none⟩=some (.slice da dn dc):=cell_of_row w1 _ 6 _ _ _ hX;have o7:w1.cell? ⟨w.heap.size,7,none⟩=some (.slice ma mn mc):=cell_of_row w1 _ 7 _ _ _ hX;have Ng:=H.below Aa;obtain ⟨fx,GD⟩:=zhS H.inv G9;have HK:=zh (zn H (zn hk (zn G9 (zn GD Aa))));have Ak:=zh (fun (W:World) (hW:Below w1.heap.size w1 W)=> Aa.trans (hW.mono Aa.size));have LS:=zh (zjB (dc:=dc) (mc:=mc) Ng (hO.below Aa) CH);have XW:=H.inv.clock;have Ew:=hO.pt
 by_cases LV:o.k=18
 ·have Dn:=Ng.reads;have p19:=Dn.2.2.2.2.2.2.2.2.2.2.2.2.2.2.2.2.2.2.2.1;have pf19:=Dn.2.2.2.2.2.2.2.2.2.2.2.2.2.2.2.2.2.2.2.2 19;obtain ⟨pt,GN⟩:∃pt:Nat,o.pt=(pt:Int):=⟨o.pt.toNat,ud⟩;have AO:zal cf.win cf.every st o fx=if pt<=18446744073709551615 - st.clock then {st with clock:=st.clock+pt} else st:=by
   unfold zal zlK;rw [if_pos LV,GN]
   rfl
  unfold opA at Ab;rw [LV] at o0 Ab;rw [GN] at o5 Ab;have i1:IntKind.u64.wrap (18446744073709551615 - (st.clock:Int))=18446744073709551615 - (st.clock:Int):=IntWalk.u64_in _ ud;have ZZ:=zh Ab;unfold opA;rw [LV,GN];clear LS Ng Dn hX Aa Ab H hO Ew GN LV
  by_cases BO:pt<=18446744073709551615 - st.clock
  ·have e1:decide ((pt:Int)<=18446744073709551615 - (st.clock:Int))=true:=decide_eq_true ud;have i2:IntKind.u64.wrap ((st.clock:Int)+(pt:Int))=((st.clock+pt:Nat):Int):=by rw [IntWalk.u64_in _ ud];omega
   rw [if_pos BO] at AO;have AJ:=zh (fun (W:World) (hW:Below w1.heap.size w1 W)=> DoX.clock HK.out.1 HK.out.2.1 HK.out.2.2.2.1 (Ak.out W hW) AO);have Ab:=ZZ.out;clear AO BO;generalize st.clock+pt=t at *;go_in;go_upto_region 1 with fail;rw [<- Ab];clear Ab;go_upto_region 2 with fail
   go_quiet (fail)
   go_upto_region 3 with fail
   go_region
   all_goals
        go_wp2_with fail
        (try simp only [Exit.inBlock,Exit.then])
        refine bodyPost_ret (results_none rfl _ _ _) rfl ?_;exact ⟨rfl,AJ.out _ ⟨rfl,rfl,rfl,zl,fun _ _=> rfl⟩⟩
  have e1:decide ((pt:Int)<=18446744073709551615 - (st.clock:Int))=false:=decide_eq_false ud;rw [if_neg BO] at AO;have AJ:=zh (fun (W:World) (hW:Below w1.heap.size w1 W)=> DoX.same HK.out.1 HK.out.2.1 HK.out.2.2.2.1 (Ak.out W hW) AO);have Ab:=ZZ.out;clear AO BO;go_in;go_upto_region 1 with fail;rw [<- Ab];clear Ab;go_upto_region 2 with fail
  go_quiet (fail)
  go_wp2_with fail
  (try simp only [Exit.inBlock,Exit.then])
  refine bodyPost_ret (results_none rfl _ _ _) rfl ?_;exact ⟨rfl,AJ.out _ ⟨rfl,rfl,rfl,zl,fun _ _=> rfl⟩⟩
 have i0:(o.k==18)=false:=by rw [beq_eq_false_iff_ne];exact LV
 have HN:=zh (zn LV (zn Ng (zn H.qlt Aa.size)));clear hX Aa H hO Ew XW Ng LV;unfold opA at *;go_in;go_upto_region 1 with fail;rw [<- Ab];clear Ab;go_wp2_with fail;refine LS.out.mono ?_;rintro e w2 ⟨v,rfl,Ae,Ul,Ij⟩;have Ap:=zh Ae
 by_cases hr:(zc9 cf.win cf.every st.c st.l st.seq st.clock o).1=0
 ·obtain ⟨x,hc,pv,pl,rfl,hX⟩:=Ij hr;obtain ⟨-,AE,G7⟩:=zem (window:=cf.win) (every:=cf.every) (c:=st.c) (l:=st.l) (s:=st.seq) (clock:=st.clock) (o:=o) (g:=(zc9 cf.win cf.every st.c st.l st.seq st.clock o).2) HK.out.1.inv.ct (Prod.ext hr rfl);have Hc:=zh (ze3 (HN.out.2.1.below Ae) hX (fun j hj=> zt (HN.out.2.2.1 j hj) HN.out.2.2.2) G7 AE HK.out.2.1 HK.out.2.2.1);have HR:=zh hr;rw [hr];clear Ul Ij hX AE G7 hr Ae LS o0 o1 o2 o3 o4 o5 o6 o7 i0;go_wp2_with fail;refine Hc.out.mono ?_;rintro e w3 ⟨rfl,hA⟩;have HA:=zh hA;clear hA Hc;go_wp2_with fail;go_end0;exact ⟨rfl,DoX.made (Ak.out w2 Ap.out) HN.out.1 HR.out HA.out⟩
 obtain rfl:=Ul hr;have HR:=zh hr;generalize qe:(zc9 cf.win cf.every st.c st.l st.seq st.clock o).1=rc at *;have CD:=zh qe;clear Ul Ij Ae LS o0 o1 o2 o3 o4 o5 o6 o7 i0 hr qe;go_wp2_with fail;go_end0;refine ⟨rfl,DoX.same HK.out.1 HK.out.2.1 HK.out.2.2.2.1 (Ak.out w2 Ap.out) ?_⟩;unfold zal;rw [if_neg HN.out.1,if_pos (by rw [CD.out];exact HR.out)]
end
section
open Go.RowKit
structure zcS (w0:World) (p s n:Nat) (xs:List Sh) (w:World):Prop where
 bel:Below w0.heap.size w0 w
 ps:s < p
 sb:w0.heap.size<=s
 box:w.heap[p]? =some (.cells #[.slice (some ⟨s,0,none⟩) n n, .slice none 0 0, .bool false, .int .i64 0] 147 (0,0))
 row:∃cur:Array Value,w.heap[s]? =some (.cells cur 33 (0,0))/\cur.size=n/\cur.toList=zB ziN xs++List.replicate (n - xs.length) (.slice none 0 0)
 len:xs.length<=n
 sec:∀x ∈ xs,Bs w (some ⟨x.g,0,none⟩) 128 x.d/\x.d=List.replicate 128 0/\x.c=128/\w0.heap.size<=x.g/\x.g≠p/\x.g≠s
theorem zbF (xs:List Sh):(zB ziN xs).length=xs.length:=by rw [zU ziN 1 zfi];omega
theorem zcS.plt {w0 w:World} {p s n:Nat} {xs:List Sh} (h:zcS w0 p s n xs w):p < w.heap.size:=(zg h.box).1
theorem zcS.slt {w0 w:World} {p s n:Nat} {xs:List Sh} (h:zcS w0 p s n xs w):s < w.heap.size:=by have:=h.plt;have:=h.ps;omega
theorem zcS.at {w0 w:World} {p s n:Nat} {xs:List Sh} (h:zcS w0 p s n xs w) (hk:xs.length < n):w.cell? ⟨s,xs.length,none⟩=some (.slice none 0 0)/\w.frozen? ⟨s,xs.length,none⟩=false:=by
 obtain ⟨cur,h1,h2,h3⟩:=h.row;refine ⟨?_,by simp [World.frozen?,h1]⟩
 rw [cell_of_row w s _ cur _ _ h1,<- Array.getElem?_toList,h3,List.getElem?_append_right (by rw [zbF];exact zl),zbF,Nat.sub_self,List.getElem?_replicate,if_pos ud]
theorem zcS.next {w0 w w3:World} {p s n:Nat} {xs:List Sh} (h:zcS w0 p s n xs w) (hk:xs.length < n) (hg:w.drew.grownBy w3 none) (hz:Bs w3 (some ⟨w.heap.size,0,none⟩) 128 (List.replicate 128 0)):
 zcS w0 p s n (xs++ [⟨w.heap.size,128,List.replicate 128 0⟩]) (w3.setCell ⟨s,xs.length,none⟩ (.slice (some ⟨w.heap.size,0,none⟩) 128 128)):=by
 have hb:Below w.heap.size w w3:=zr.drew.grown hg zl (fun k hk=> by cases hk)
 have AQ:=h.plt;have Fc:=h.slt;have Aq:=h.bel.trans (hb.mono h.bel.size);have Ly:p≠s:=by have:=h.ps;omega
 obtain ⟨cur,h1,h2,h3⟩:=h.row;have G2:=(hb.block s Fc).trans h1;refine ⟨Aq.setCell (p:=⟨s,xs.length,none⟩) h.sb _,h.ps,h.sb, ?_,⟨_,heap_setCell_same w3 s xs.length _ _ _ G2,by simpa using h2, ?_⟩,uo,fun x hx=> ?_⟩
 ·rw [heap_setCell_other _ _ _ _ Ly];exact (hb.block p AQ).trans h.box
 ·rw [Array.toList_setIfInBounds,h3,zaj,List.set_append_right _ _ (by rw [zbF];exact zl),zbF,Nat.sub_self]
  obtain ⟨m,hm⟩:∃m,n - xs.length=m+1:=⟨n - xs.length - 1,ud⟩;rw [hm,List.replicate_succ,List.set_cons_zero,List.append_assoc]
  congr 1
  simp only [List.length_append,List.length_cons,List.length_nil];rw [show n - (xs.length+(0+1))=m by omega]
  rfl
 rcases List.mem_append.1 hx with hx | hx
 ·obtain ⟨q1,q2,q3,q4,q5,q6⟩:=h.sec x hx;refine ⟨Bs.heap (q1.below hb zl) (heap_setCell_other _ _ _ _ q6),q2,q3,q4,q5,q6⟩
 simp at hx;subst hx;exact ⟨Bs.heap hz (heap_setCell_other _ _ _ _ uah),rfl,rfl,h.bel.size,uah,uah⟩
theorem zcS.drew {w0 w:World} {p s n:Nat} {xs:List Sh} (h:zcS w0 p s n xs w):zcS w0 p s n xs w.drew:=
 ⟨h.bel.drew,h.ps,h.sb,h.box,h.row,h.len,fun x hx=> by
  obtain ⟨q1,q⟩:=h.sec x hx;exact ⟨q1.below zr.drew zl,q⟩⟩
theorem zcS.full {w0 w:World} {p s n:Nat} {xs:List Sh} (h:zcS w0 p s n xs w) (hk:xs.length=n) (hn:n<=1000000) (Q:Nat->Prop) (hQ:∀j,Q j->j < w0.heap.size):
 zbC (fun j=> Q j\/j=p\/j=s) w p s (.slice none 0 0) xs [] false 0 (fun j=> j=p\/j=s)/\xs.map (·.d)=List.replicate n (List.replicate 128 0):=by
 obtain ⟨cur,h1,h2,h3⟩:=h.row;have GM:=h.ps;refine ⟨⟨by rw [hk];exact h.box, ?_,World.ownsRow_nil _ _ _ _,fun x hx=> ?_,fun y hy=> (by cases hy),fun j=> ⟨fun h=> by rcases h with h | h;exact .inl h;exact .inr (.inl h),fun h=> by rcases h with h | h | h;exact .inl h;exact .inr h;simp [Value.ownBlock] at h⟩,⟨ud,by simp [Value.ownBlock],by simp [Value.ownBlock]⟩⟩, ?_⟩
 ·have ho:zK ziN 1 33 w 0 (.slice (some ⟨s,0,none⟩) xs.length xs.length) xs:=by
   refine ⟨by rw [zU ziN 1 zfi], .inr ⟨s,xs.length,cur,rfl,Nat.zero_le _,h1,zl,ur,by rw [h2];omega, ?_⟩⟩
   rw [h3,hk,Nat.sub_self,List.replicate_zero,List.append_nil,Nat.mul_one];exact zk (by rw [zbF];omega)
  rcases zK.cases ho with ⟨e,-⟩ | ⟨g,cap,e,-,-,hR⟩
  ·cases e
  cases e
  exact hR
 ·obtain ⟨q1,q2,q3,q4,q5,q6⟩:=h.sec x hx;exact ⟨q1,ud,fun hq=> by rcases hq with hq | hq | hq;have:=hQ _ hq;omega;exact q5 hq;exact q6 hq⟩
 have:∀x ∈ xs,x.d=List.replicate 128 0:=fun x hx=> (h.sec x hx).2.1;rw [<- hk];clear h h1 h2 h3 hk
 induction xs with
 | nil=> rfl
 | cons x xs ih=> rw [List.map_cons,List.length_cons,List.replicate_succ,this x List.mem_cons_self,ih fun y hy=> this y (List.mem_cons_of_mem _ hy)]
theorem rowsN (w:World) (n:Nat) (hn:n<=4096):∃w',(Instr.makeSlice 144 (.int .i64 (n:Int)) (.int .i64 (n:Int))).run Tryz.prog w= .ok (.slice (some ⟨w.heap.size,0,none⟩) n n) w'/\(∃cur:Array Value,w'.heap[w.heap.size]? =some (.cells cur 33 (0,0))/\cur.toList=List.replicate n (.slice none 0 0))/\w.grownBy w' none:=by
 obtain ⟨i0,hi,AG,Ai,Ax⟩:=info_parts zpR;obtain ⟨w',hr,ho,hg⟩:=run_make_full (P:=Tryz.prog) (w:=w) w.heap.size 144 33 i0 (.slice none 0 0) 1 Tryz.underlying144 hi AG Ai .i64 .i64 n uQ ur zl;have hm:(madeCells (Value.slice none 0 0).cells (n * 1)).toList=List.replicate n (.slice none 0 0):=by
  apply List.ext_getElem
  ·simp [madeCells]
  intro j h1 h2;simp [madeCells,Value.cells,Nat.mod_one]
 rcases ho.2 with ⟨h,_⟩ | ⟨g,cap,cur,he,_,hh,_,_,Fo,ht⟩
 ·cases h
 cases he
 refine ⟨w',hr,⟨cur,hh, ?_⟩,hg⟩;rw [<- hm,<- ht];exact (zk (by rw [Array.length_toList,Fo];exact zl)).symm
theorem ziM (n:Nat) (w:World) (h1:1<=n) (hn:n<=4096):
 Calls Tryz.prog 35 #[.int .i64 (n:Int)] w fun e w'=> ∃p s xs,e= .returned (.tuple #[.pointer (some ⟨p,0,none⟩), .int .i64 0])/\xs.length=n/\w.heap.size<=s/\s < p/\zcS w p s n xs w'/\Below w.heap.size w w':=by
 obtain ⟨w1,QU,Fo,hg⟩:=rowsN w n hn;have Aa:Below w.heap.size w w1:=zr.grown hg zl (fun k hk=> by cases hk)
 have h1i:(1:Int)<=(n:Int):=ud;have h2i:(n:Int)<=4096:=ud;clear hg;go_in;go_wp2_with fail;have LA:w.heap.size < w1.heap.size:=by
  obtain ⟨cur,Kt,-⟩:=Fo;exact (zg Kt).1
 have Ae:Below w.heap.size w (w1.alloc (.cells #[.slice (some ⟨w.heap.size,0,none⟩) n n, .slice none 0 0, .bool false, .int .i64 0] 147)):=Aa.alloc Aa.size _;have Am:Below w1.heap.size w1 (w1.alloc (.cells #[.slice (some ⟨w.heap.size,0,none⟩) n n, .slice none 0 0, .bool false, .int .i64 0] 147)):=zr.alloc zl _;have S3:zcS w w1.heap.size w.heap.size n [] (w1.alloc (.cells #[.slice (some ⟨w.heap.size,0,none⟩) n n, .slice none 0 0, .bool false, .int .i64 0] 147)):=
  ⟨Ae,LA,zl,heap_alloc_new w1 _,by
   obtain ⟨cur,Kt,AR⟩:=Fo;exact ⟨cur,(Am.block w.heap.size LA).trans Kt,by rw [<- Array.length_toList,AR,List.length_replicate],by rw [AR];rfl⟩,uh,fun x hx=> by cases hx⟩
 generalize w1.alloc (.cells #[.slice (some ⟨w.heap.size,0,none⟩) n n, .slice none 0 0, .bool false, .int .i64 0] 147)=w2 at *;clear Aa Ae Am Fo QU LA;generalize w1.heap.size=p at *
 go_loopw [21] (fun u21 wr=> ∃xs:List Sh,xs.length<=n/\u21= .int .i64 (xs.length:Nat)/\zcS w p w.heap.size n xs wr) (fun u21 _=> n - (intOf u21).toNat)
 case atStart=> exact ⟨[],uh,rfl,S3⟩
 case round=>
  obtain ⟨xs,hk,rfl,hh⟩:=hrel
  by_cases hlt:xs.length < n
  ·obtain ⟨w3,QU,hz,AF,hg⟩:=znz wr.drew;have DU:=hh.next hlt hg hz;have Vt:(xs++ [(⟨wr.heap.size,128,List.replicate 128 0⟩:Sh)]).length=xs.length+1:=uh;have c0:=cell_of_row wr.drew _ 0 _ _ _ hh.drew.box;have Zj:=hh.at hlt;have Ar:Below wr.heap.size wr w3:=zr.drew.grown hg zl (fun k hk=> by cases hk)
   have aT:w3.cell? ⟨w.heap.size,xs.length,none⟩=some (.slice none 0 0):=by rw [Ar.cell (p:=⟨w.heap.size,xs.length,none⟩) hh.slt];exact Zj.1
   have c03:w3.cell? ⟨p,0,none⟩=some (.slice (some ⟨w.heap.size,0,none⟩) n n):=by rw [Ar.cell (p:=⟨p,0,none⟩) hh.plt];exact cell_of_row wr _ 0 _ _ _ hh.box
   have yK:w3.frozen? ⟨w.heap.size,xs.length,none⟩=false:=by rw [Ar.frozen (p:=⟨w.heap.size,xs.length,none⟩) hh.slt];exact Zj.2
   have BX:(0:Int)<=(xs.length:Int):=ud;have BY:(xs.length:Int) < (n:Int):=ud;have AR:wr.drew.heap.size=wr.heap.size:=rfl;rw [AR] at QU;have Rr:=zh (zn DU Vt);have c00:=cell_of_row wr _ 0 _ _ _ hh.box;clear DU Vt hz AF hg hh Ar Zj;generalize hm:xs.length=m at *;clear hm;go_wp2_with fail
   go_region
   all_goals
        go_wp2_with fail;exact ⟨⟨_,by rw [Rr.out.2];omega,by rw [Rr.out.2];go_num,Rr.out.1⟩,by simp [intOf];omega⟩
  obtain rfl:xs.length=n:=ud;go_wp2_with fail;go_ret2;exact ⟨p,w.heap.size,xs,rfl,rfl,zl,hh.ps,hh,hh.bel⟩
end
end Go.Proofs.YtaoceecfjlkmdaaGreat
