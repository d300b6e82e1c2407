/- Lemmas of the walks, merged and pressed by press.py. Conditions: those of each theorem. -/
import Derived.Test.YtfldlfladcfggaaGreatM30
import Derived.Test.YtfldlfladcfggaaGreatM29
import Derived.Test.YtfldlfladcfggaaGreatM23
import Derived.Test.YtfldlfladcfggaaGreatM22
set_option maxRecDepth 100000
set_option maxHeartbeats 64000000
set_option linter.all false
namespace Go.Proofs.YtfldlfladcfggaaGreat
section
open Go.RowKit
theorem zjc (w:World) (o:PO) (da:Option Addr) (dn dc:Nat) (ma:Option Addr) (mn mc:Nat):
 Calls Tryz.prog 23 #[.agg (opA o da dn dc ma mn mc)] w fun e w'=> e= .returned (.bool (decide (1≤o.k∧o.k≤14)))∧Below w.heap.size w w':=by
 obtain ⟨w1,Ab⟩:∃w1,w1=w.alloc (.cells (opA o da dn dc ma mn mc) 28):=⟨_,rfl⟩;have Aa:Below w.heap.size w w1:=by rw [Ab];exact zr.alloc zl _
 have hX:w1.heap[w.heap.size]? =some (.cells (opA o da dn dc ma mn mc) 28 (0,0)):=by rw [Ab];exact heap_alloc_new w _
 have HB:=zh Aa;have o0:=cell_of_row w1 _ 0 _ _ _ hX;unfold opA at *;clear Aa hX
 by_cases h1:1≤o.k
 ·by_cases h2:o.k≤14
  ·have HK:=zh (show decide (1≤o.k∧o.k≤14)=true from decide_eq_true ⟨h1,h2⟩);have e1:decide (o.k ≥ 1)=true:=decide_eq_true h1;have e2:decide (o.k≤14)=true:=decide_eq_true h2;go_enter Tryz.func23,Tryz.ntmps23;go_upto_region 1 with fail;rw [← Ab];clear Ab;go_wp2_with fail;go_ret;exact ⟨by first | rfl | trivial | (simp [*];done) | (simp;omega),HB.out⟩
  ·have HK:=zh (show decide (1≤o.k∧o.k≤14)=false from decide_eq_false fun h=> h2 h.2);have e1:decide (o.k ≥ 1)=true:=decide_eq_true h1;have e2:decide (o.k≤14)=false:=decide_eq_false h2;go_enter Tryz.func23,Tryz.ntmps23;go_upto_region 1 with fail;rw [← Ab];clear Ab;go_wp2_with fail;go_ret;exact ⟨by first | rfl | trivial | (simp [*];done) | (simp;omega),HB.out⟩
 ·have HK:=zh (show decide (1≤o.k∧o.k≤14)=false from decide_eq_false fun h=> h1 h.1);have e1:decide (o.k ≥ 1)=false:=decide_eq_false h1;go_enter Tryz.func23,Tryz.ntmps23;go_upto_region 1 with fail;rw [← Ab];clear Ab;go_wp2_with fail;go_ret;exact ⟨by first | rfl | trivial | (simp [*];done) | (simp;omega),HB.out⟩
theorem zk5 {w:World} {a:Option Addr} {n:Nat} {l:List Int} (h:zM zcm 1 w a n l):Is .i64 w a n l:=by
 refine ⟨by rw [List.length_map];exact h.1,fun i v hv=> ?_⟩
 rw [List.getElem?_map] at hv;obtain ⟨z,hz,rfl⟩:=Option.map_eq_some_iff.1 hv;obtain ⟨b,o,rfl,hc⟩:=h.2 i z hz;exact ⟨b,o,rfl,by simpa using hc 0 _ rfl⟩
theorem zbB {w W:World} {b:Addr} {u:Value} (hW:Below w.heap.size w W) (h:w.cell? b=some u):W.cell? b=some u:=by
 rcases Nat.lt_or_ge b.block w.heap.size with h1 | h1
 ·have h2:=hW.block b.block h1;unfold World.cell? at h ⊢;rw [h2];exact h
 ·simp [World.cell?,Array.getElem?_eq_none h1] at h
def TryE (w0:World) (Q:Nat→Prop) (r:Nat × Chg) (e:Ending) (w':World):Prop:=∃v,e= .returned (.tuple #[v, .int .i64 (r.1:Int)])∧Below w0.heap.size w0 w'∧(r.1≠0→v= .pointer none)∧(r.1=0→∃x hc pv pl,v= .pointer (some ⟨x,0,none⟩)∧ChM Q w0.heap.size w' x hc r.2 pv pl)
theorem ChM.new {Q:Nat→Prop} {w0 w:World} {h:Ch} {c:Ct} (hb:Below w0.heap.size w0 w) (hc:zaV Q w h c) (hQ:∀j,Q j→j < w0.heap.size) (s:Nat):ChM Q w0.heap.size (w.alloc (.cells (zb8 h (Chg.nil c s) (.slice none 0 0)) 82)) w.heap.size h (Chg.nil c s) (.slice none 0 0) []:=by
 refine ⟨heap_alloc_new w _,hb.size, ?_,World.ownsRow_nil _ _ _ _,(fun e=> by cases e),rfl,fun y hy=> by cases hy⟩
 refine hc.outs (zD.of_below (zr.alloc zl _)) fun j hj=> ?_;rcases hj with hj | hj | hj
 ·exact .inl hj
 ·exact .inr (by omega)
 ·cases hj
theorem ChM.times1 {Q:Nat→Prop} {B:Nat} {w:World} {x:Nat} {h:Ch} {g:Chg} {pv:Value} {pl:List Ph} (X:ChM Q B w x h g pv pl) {ta:Option Addr} {tc:Nat} {l:List Mk} (hr:zM zbZ 2 w ta l.length l) (Gd:∀b o,ta=some ⟨b,o,none⟩→¬(Q b∨b=x∨pv.ownBlock=some b)):
 ChM Q B (w.setCell ⟨x,8,none⟩ (.slice ta l.length tc)) x {h with ta:=ta,tc:=tc} {g with c:={g.c with times:=l}} pv pl:=by
 have hc:=X.cat;exact X.turn (heap_setCell_same w x 8 _ _ _ X.box) (zq w ⟨x,8,none⟩ _) ⟨hc.vols,hc.volsE,hc.groups,hc.groupsE,hc.books,hc.booksE,hc.kept,⟨hr,fun b o e _=> Gd b o e⟩⟩ rfl
end
section
open Go.RowKit
structure zcS (w0:World) (p s n:Nat) (xs:List Sh) (w:World):Prop where
 bel:Below w0.heap.size w0 w
 ps:s < p
 sb:w0.heap.size≤s
 box:w.heap[p]? =some (.cells #[.slice (some ⟨s,0,none⟩) n n, .slice none 0 0, .bool false, .int .i64 0] 108 (0,0))
 row:∃cur:Array Value,w.heap[s]? =some (.cells cur 25 (0,0))∧cur.size=n∧cur.toList=zB ziN xs++List.replicate (n - xs.length) (.slice none 0 0)
 len:xs.length≤n
 sec:∀x ∈ xs,Bs w (some ⟨x.g,0,none⟩) 128 x.d∧x.d=List.replicate 128 0∧x.c=128∧w0.heap.size≤x.g∧x.g≠p∧x.g≠s
theorem zbF (xs:List Sh):(zB ziN xs).length=xs.length:=by rw [zU ziN 1 zfi];omega
theorem zcS.plt {w0 w:World} {p s n:Nat} {xs:List Sh} (h:zcS w0 p s n xs w):p < w.heap.size:=(zg h.box).1
theorem zcS.slt {w0 w:World} {p s n:Nat} {xs:List Sh} (h:zcS w0 p s n xs w):s < w.heap.size:=by have:=h.plt;have:=h.ps;omega
theorem zcS.at {w0 w:World} {p s n:Nat} {xs:List Sh} (h:zcS w0 p s n xs w) (hk:xs.length < n):w.cell? ⟨s,xs.length,none⟩=some (.slice none 0 0)∧w.frozen? ⟨s,xs.length,none⟩=false:=by
 obtain ⟨cur,h1,h2,h3⟩:=h.row;refine ⟨?_,by simp [World.frozen?,h1]⟩
 rw [cell_of_row w s _ cur _ _ h1,← Array.getElem?_toList,h3,List.getElem?_append_right (by rw [zbF];exact zl),zbF,Nat.sub_self,List.getElem?_replicate,if_pos (by omega)]
theorem zcS.next {w0 w w3:World} {p s n:Nat} {xs:List Sh} (h:zcS w0 p s n xs w) (hk:xs.length < n) (hg:w.drew.grownBy w3 none) (hz:Bs w3 (some ⟨w.heap.size,0,none⟩) 128 (List.replicate 128 0)):
 zcS w0 p s n (xs++ [⟨w.heap.size,128,List.replicate 128 0⟩]) (w3.setCell ⟨s,xs.length,none⟩ (.slice (some ⟨w.heap.size,0,none⟩) 128 128)):=by
 have hb:Below w.heap.size w w3:=zr.drew.grown hg zl (fun k hk=> by cases hk)
 have AQ:=h.plt;have Fc:=h.slt;have Aq:=h.bel.trans (hb.mono h.bel.size);have Ly:p≠s:=by have:=h.ps;omega
 obtain ⟨cur,h1,h2,h3⟩:=h.row;have G2:=(hb.block s Fc).trans h1;refine ⟨Aq.setCell (p:=⟨s,xs.length,none⟩) h.sb _,h.ps,h.sb, ?_,⟨_,heap_setCell_same w3 s xs.length _ _ _ G2,by simpa using h2, ?_⟩,by simp;omega,fun x hx=> ?_⟩
 ·rw [heap_setCell_other _ _ _ _ Ly];exact (hb.block p AQ).trans h.box
 ·rw [Array.toList_setIfInBounds,h3,zaj,List.set_append_right _ _ (by rw [zbF];exact zl),zbF,Nat.sub_self]
  obtain ⟨m,hm⟩:∃m,n - xs.length=m+1:=⟨n - xs.length - 1,by omega⟩
  rw [hm,List.replicate_succ,List.set_cons_zero,List.append_assoc]
  congr 1
  simp only [List.length_append,List.length_cons,List.length_nil];rw [show n - (xs.length+(0+1))=m by omega]
  rfl
 ·rcases List.mem_append.1 hx with hx | hx
  ·obtain ⟨q1,q2,q3,q4,q5,q6⟩:=h.sec x hx;refine ⟨Bs.heap (q1.below hb zl) (heap_setCell_other _ _ _ _ q6),q2,q3,q4,q5,q6⟩
  ·simp at hx;subst hx;exact ⟨Bs.heap hz (heap_setCell_other _ _ _ _ (by simp only;omega)),rfl,rfl,h.bel.size,by simp only;omega,by simp only;omega⟩
theorem zcS.drew {w0 w:World} {p s n:Nat} {xs:List Sh} (h:zcS w0 p s n xs w):zcS w0 p s n xs w.drew:=
 ⟨h.bel.drew,h.ps,h.sb,h.box,h.row,h.len,fun x hx=> by
  obtain ⟨q1,q⟩:=h.sec x hx;exact ⟨q1.below zr.drew zl,q⟩⟩
theorem zcS.full {w0 w:World} {p s n:Nat} {xs:List Sh} (h:zcS w0 p s n xs w) (hk:xs.length=n) (hn:n≤1000000) (Q:Nat→Prop) (hQ:∀j,Q j→j < w0.heap.size):
 zbC (fun j=> Q j∨j=p∨j=s) w p s (.slice none 0 0) xs [] false 0 (fun j=> j=p∨j=s)∧xs.map (·.d)=List.replicate n (List.replicate 128 0):=by
 obtain ⟨cur,h1,h2,h3⟩:=h.row;have GM:=h.ps;refine ⟨⟨by rw [hk];exact h.box, ?_,World.ownsRow_nil _ _ _ _,fun x hx=> ?_,fun y hy=> (by cases hy),fun j=> ⟨fun h=> by rcases h with h | h;exact .inl h;exact .inr (.inl h),fun h=> by rcases h with h | h | h;exact .inl h;exact .inr h;simp [Value.ownBlock] at h⟩,⟨by omega,by simp [Value.ownBlock],by simp [Value.ownBlock]⟩⟩, ?_⟩
 ·have ho:zK ziN 1 25 w 0 (.slice (some ⟨s,0,none⟩) xs.length xs.length) xs:=by
   refine ⟨by rw [zU ziN 1 zfi], .inr ⟨s,xs.length,cur,rfl,Nat.zero_le _,h1,zl,by unfold maxLen;omega,by rw [h2];omega, ?_⟩⟩
   rw [h3,hk,Nat.sub_self,List.replicate_zero,List.append_nil,Nat.mul_one];exact zk (by rw [zbF];omega)
  rcases zK.cases ho with ⟨e,-⟩ | ⟨g,cap,e,-,-,hR⟩
  ·cases e
  ·cases e
   exact hR
 ·obtain ⟨q1,q2,q3,q4,q5,q6⟩:=h.sec x hx;exact ⟨q1,by omega,fun hq=> by rcases hq with hq | hq | hq;have:=hQ _ hq;omega;exact q5 hq;exact q6 hq⟩
 ·have:∀x ∈ xs,x.d=List.replicate 128 0:=fun x hx=> (h.sec x hx).2.1;rw [← hk];clear h h1 h2 h3 hk
  induction xs with
  | nil=> rfl
  | cons x xs ih=> rw [List.map_cons,List.length_cons,List.replicate_succ,this x List.mem_cons_self,ih fun y hy=> this y (List.mem_cons_of_mem _ hy)]
theorem rowsN (w:World) (n:Nat) (hn:n≤4096):∃w',(Instr.makeSlice 105 (.int .i64 (n:Int)) (.int .i64 (n:Int))).run Tryz.prog w= .ok (.slice (some ⟨w.heap.size,0,none⟩) n n) w'∧(∃cur:Array Value,w'.heap[w.heap.size]? =some (.cells cur 25 (0,0))∧cur.toList=List.replicate n (.slice none 0 0))∧w.grownBy w' none:=by
 obtain ⟨i0,hi,AG,Ai,Ax⟩:=info_parts zpR;obtain ⟨w',hr,ho,hg⟩:=run_make_full (P:=Tryz.prog) (w:=w) w.heap.size 105 25 i0 (.slice none 0 0) 1 Tryz.underlying105 hi AG Ai .i64 .i64 n (by rw [Ax];omega) (by unfold maxLen;omega) zl
 have hm:(madeCells (Value.slice none 0 0).cells (n * 1)).toList=List.replicate n (.slice none 0 0):=by
  apply List.ext_getElem
  ·simp [madeCells]
  ·intro j h1 h2;simp [madeCells,Value.cells,Nat.mod_one]
 rcases ho.2 with ⟨h,_⟩ | ⟨g,cap,cur,he,_,hh,_,_,Fo,ht⟩
 ·cases h
 ·cases he
  refine ⟨w',hr,⟨cur,hh, ?_⟩,hg⟩;rw [← hm,← ht];exact (zk (by rw [Array.length_toList,Fo];exact zl)).symm
theorem ziM (n:Nat) (w:World) (h1:1≤n) (hn:n≤4096):
 Calls Tryz.prog 20 #[.int .i64 (n:Int)] w fun e w'=> ∃p s xs,e= .returned (.tuple #[.pointer (some ⟨p,0,none⟩), .int .i64 0])∧xs.length=n∧w.heap.size≤s∧s < p∧zcS w p s n xs w'∧Below w.heap.size w w':=by
 obtain ⟨w1,QU,Fo,hg⟩:=rowsN w n hn;have Aa:Below w.heap.size w w1:=zr.grown hg zl (fun k hk=> by cases hk)
 have h1i:(1:Int)≤(n:Int):=by omega
 have h2i:(n:Int)≤4096:=by omega
 clear hg;go_enter Tryz.func20,Tryz.ntmps20;go_wp2_with fail;have LA:w.heap.size < w1.heap.size:=by
  obtain ⟨cur,Kt,-⟩:=Fo;exact (zg Kt).1
 have Ae:Below w.heap.size w (w1.alloc (.cells #[.slice (some ⟨w.heap.size,0,none⟩) n n, .slice none 0 0, .bool false, .int .i64 0] 108)):=Aa.alloc Aa.size _;have Am:Below w1.heap.size w1 (w1.alloc (.cells #[.slice (some ⟨w.heap.size,0,none⟩) n n, .slice none 0 0, .bool false, .int .i64 0] 108)):=zr.alloc zl _;have S3:zcS w w1.heap.size w.heap.size n [] (w1.alloc (.cells #[.slice (some ⟨w.heap.size,0,none⟩) n n, .slice none 0 0, .bool false, .int .i64 0] 108)):=
  ⟨Ae,LA,zl,heap_alloc_new w1 _,by
   obtain ⟨cur,Kt,AR⟩:=Fo;exact ⟨cur,(Am.block w.heap.size LA).trans Kt,by rw [← Array.length_toList,AR,List.length_replicate],by rw [AR];rfl⟩,by simp,fun x hx=> by cases hx⟩
 generalize w1.alloc (.cells #[.slice (some ⟨w.heap.size,0,none⟩) n n, .slice none 0 0, .bool false, .int .i64 0] 108)=w2 at *;clear Aa Ae Am Fo QU LA;generalize w1.heap.size=p at *
 go_loopw [21] (fun u21 wr=> ∃xs:List Sh,xs.length≤n∧u21= .int .i64 (xs.length:Nat)∧zcS w p w.heap.size n xs wr) (fun u21 _=> n - (intOf u21).toNat)
 case atStart=> exact ⟨[],by simp,rfl,S3⟩
 case round=>
  obtain ⟨xs,hk,rfl,hh⟩:=hrel
  by_cases hlt:xs.length < n
  ·obtain ⟨w3,QU,hz,AF,hg⟩:=znz wr.drew;have DU:=hh.next hlt hg hz;have Vt:(xs++ [(⟨wr.heap.size,128,List.replicate 128 0⟩:Sh)]).length=xs.length+1:=by simp
   have c0:=cell_of_row wr.drew _ 0 _ _ _ hh.drew.box;have Zj:=hh.at hlt;have Ar:Below wr.heap.size wr w3:=zr.drew.grown hg zl (fun k hk=> by cases hk)
   have aT:w3.cell? ⟨w.heap.size,xs.length,none⟩=some (.slice none 0 0):=by rw [Ar.cell (p:=⟨w.heap.size,xs.length,none⟩) hh.slt];exact Zj.1
   have c03:w3.cell? ⟨p,0,none⟩=some (.slice (some ⟨w.heap.size,0,none⟩) n n):=by rw [Ar.cell (p:=⟨p,0,none⟩) hh.plt];exact cell_of_row wr _ 0 _ _ _ hh.box
   have yK:w3.frozen? ⟨w.heap.size,xs.length,none⟩=false:=by rw [Ar.frozen (p:=⟨w.heap.size,xs.length,none⟩) hh.slt];exact Zj.2
   have BX:(0:Int)≤(xs.length:Int):=by omega
   have BY:(xs.length:Int) < (n:Int):=by omega
   have AR:wr.drew.heap.size=wr.heap.size:=rfl;rw [AR] at QU;have Rr:=zh (zn DU Vt);have c00:=cell_of_row wr _ 0 _ _ _ hh.box;clear DU Vt hz AF hg hh Ar Zj;generalize hm:xs.length=m at *;clear hm;go_wp2_with fail
   go_region
   all_goals
        go_wp2_with fail;exact ⟨⟨_,by rw [Rr.out.2];omega,by rw [Rr.out.2];go_num,Rr.out.1⟩,by simp [intOf];omega⟩
  ·obtain rfl:xs.length=n:=by omega
   go_wp2_with fail;go_ret2;exact ⟨p,w.heap.size,xs,rfl,rfl,zl,hh.ps,hh,hh.bel⟩
end
section
open Go.RowKit
def cfA (cf:Cfg):Array Value:=#[.int .i64 cf.sectors, .int .i64 cf.log, .int .u64 (cf.seq:Int), .int .u64 (cf.clock:Int), .int .u64 (cf.win:Int), .int .u64 (cf.every:Int)]
structure zpH (cf:Cfg):Prop where
 seq:cf.seq < 18446744073709551616
 clock:cf.clock < 18446744073709551616
 win:cf.win < 18446744073709551616
 every:cf.every < 18446744073709551616
def st0 (cf:Cfg):PS:=⟨⟨0,0,0,cf.seq, [], [], [], [], []⟩, [],fun _=> [],cf.seq,cf.clock⟩
theorem zpA (cf:Cfg) (h:zpH cf) (nb:Nat):StI nb (st0 cf) 0:=
 ⟨CtI.nil zl,List.Pairwise.nil,h.seq,h.clock,fun e he=> (by cases he),zl,⟨[],zl,fun e he=> (by cases he)⟩⟩
def zpO:Ch:=⟨none,0, [],none,0, [],none,0, [],none,0,none,0⟩
theorem zl2 (Q:Nat→Prop) (w:World) (fl:Nat):zaV Q w zpO ⟨0,0,0,fl, [], [], [], [], []⟩:=
 ⟨⟨zaM.nil none,fun x hx=> by cases hx⟩,rfl,⟨zaM.nil none,fun x hx=> by cases hx⟩,rfl,⟨zaM.nil none,fun x hx=> by cases hx⟩,rfl,zaM.nil none,zaM.nil none⟩
theorem zbr {C:Nat} {w w1 w2:World} {Q:Nat→Prop} (h:Below C w w1) (ho:zD Q w1 w2) (hQ:∀j,Q j→C≤j) (hC:C≤w1.heap.size):Below C w w2:=
 h.trans ⟨ho.os,ho.tape,ho.output,ho.size,fun j hj=> ho.block j (zt hj hC) fun e=> by have:=hQ j e;omega⟩
end
section
open Go.RowKit
theorem zrS (w:World) (cf:Cfg) (Mq:zpH cf):
 Calls Tryz.prog 7 #[.agg (cfA cf)] w fun e w'=> ∃p a E s xs,e= .returned (.tuple #[.pointer (some ⟨p,0,none⟩), .bool true])∧StM w' p zpO a cf (st0 cf) 200 0 (znG 200) [] E s (.slice none 0 0) xs [] (fun j=> j=a.pd∨j=s) (fun j=> j=p∨E j∨(j=a.pd∨j=s))∧(∀j,(j=p∨E j∨(j=a.pd∨j=s))→w.heap.size≤j)∧Below w.heap.size w w':=by
 obtain ⟨w1,Ab⟩:∃w1,w1=w.alloc (.cells (cfA cf) 35):=⟨_,rfl⟩;have Aa:Below w.heap.size w w1:=by rw [Ab];exact zr.alloc zl _
 have Ai:w1.heap.size=w.heap.size+1:=by rw [Ab,World.alloc_size]
 have hX:w1.heap[w.heap.size]? =some (.cells (cfA cf) 35 (0,0)):=by rw [Ab];exact heap_alloc_new w _
 have HX:=zh (fun (W:World) (hW:Below w1.heap.size w1 W)=> (hW.block w.heap.size (by omega)).trans hX)
 have HB:=zh (zn Aa Mq);have ZD:=zh (ziM 300 w1 (by omega) (by omega))
 unfold cfA at *;clear Aa Ai hX Mq;go_enter Tryz.func7,Tryz.ntmps7;go_upto_region 1 with fail;rw [← Ab];clear Ab;go_wp2_with fail;refine ZD.out.mono ?_;rintro e w2 ⟨pd,s,xs,rfl,CI,C6,Gg,kC,Ae⟩;have H2:=zh (zn CI (zn C6 (zn Gg (zn kC Ae))));have JO:=zh (zhs 200 w2 (by omega))
 unfold zv at JO;clear CI C6 Gg kC Ae ZD;go_wp2_with fail;refine JO.out.mono ?_;rintro e w3 ⟨pa,DA,rfl,hA,jc,Am⟩;have We:=zh (zfQ hA);have H3:=zh (zn jc Am);unfold zv at We;clear hA jc Am JO;go_wp2_with fail;refine We.out.mono ?_;rintro e w4 ⟨ph,pt,E,rfl,hW,hE,Ar⟩;obtain ⟨r0,r1⟩:=hW.reads;unfold zv at r0 r1;have CB:=H3.out.2.trans (Ar.mono H3.out.2.size);have Aw:=H2.out.2.2.2.2.trans (CB.mono H2.out.2.2.2.2.size);have Ek:=HX.out w4 Aw;obtain ⟨c0,c1,c2,c3,c4,c5⟩:=rd6 (w:=w4) Ek;have H4:=zh (zn hW (zn hE (zn Ar (zn CB Aw))));clear hW hE Ar CB Aw Ek We;go_wp2_with fail;go_ret2;have Ka:∀j,E j→w2.heap.size≤j:=fun j hj=> by
  rcases H4.out.2.1 j hj with h | h
  ·exact H3.out.1 j h
  ·exact zs H3.out.2.size h
 have O8:Below w4.heap.size w4 (w4.alloc (.cells #[.int .i64 0, .int .i64 0, .int .i64 0, .int .u64 (cf.seq:Int), .slice none 0 0, .slice none 0 0, .slice none 0 0, .slice none 0 0, .slice none 0 0, .pointer (some ⟨ph,0,none⟩), .pointer (some ⟨pd,0,none⟩), .int .i64 4, .int .i64 cf.sectors, .int .i64 cf.log, .int .u64 (cf.seq:Int), .int .u64 (cf.clock:Int), .int .u64 (cf.win:Int), .int .u64 (cf.every:Int), .int .u64 (cf.seq:Int), .int .u64 (cf.clock:Int)] 60)):=zr.alloc zl _;have CO:=heap_alloc_new w4 (.cells #[.int .i64 0, .int .i64 0, .int .i64 0, .int .u64 (cf.seq:Int), .slice none 0 0, .slice none 0 0, .slice none 0 0, .slice none 0 0, .slice none 0 0, .pointer (some ⟨ph,0,none⟩), .pointer (some ⟨pd,0,none⟩), .int .i64 4, .int .i64 cf.sectors, .int .i64 cf.log, .int .u64 (cf.seq:Int), .int .u64 (cf.clock:Int), .int .u64 (cf.win:Int), .int .u64 (cf.every:Int), .int .u64 (cf.seq:Int), .int .u64 (cf.clock:Int)] 60);generalize w4.alloc (.cells #[.int .i64 0, .int .i64 0, .int .i64 0, .int .u64 (cf.seq:Int), .slice none 0 0, .slice none 0 0, .slice none 0 0, .slice none 0 0, .slice none 0 0, .pointer (some ⟨ph,0,none⟩), .pointer (some ⟨pd,0,none⟩), .int .i64 4, .int .i64 cf.sectors, .int .i64 cf.log, .int .u64 (cf.seq:Int), .int .u64 (cf.clock:Int), .int .u64 (cf.win:Int), .int .u64 (cf.every:Int), .int .u64 (cf.seq:Int), .int .u64 (cf.clock:Int)] 60)=w5 at *;have yF:=(H2.out.2.2.2.1.full H2.out.1 (by omega) (fun _=> False) (fun _ h=> h.elim)).1
 have Si:Below w2.heap.size w2 w5:=H4.out.2.2.2.1.trans (O8.mono H4.out.2.2.2.1.size);have AQ:pd < w2.heap.size:=H2.out.2.2.2.1.plt;have Fc:s < w2.heap.size:=H2.out.2.2.2.1.slt;have a6:=H4.out.2.2.2.1.size;have Ab:=HB.out.1.size;have RL:=H4.out.1.lt;refine ⟨w4.heap.size,⟨ph,pt,pa,pd,4⟩,E,s,xs,rfl,⟨CO,zl2 _ _ _,H4.out.1.below O8,zcR.empty 200 _ (fun x=> zg2), ?_,fun j=> Iff.rfl,⟨fun e=> ?_,fun e=> ?_,fun j hj e=> ?_⟩,fun e he=> (by cases he),⟨?_, ?_⟩,Nat.zero_le _⟩,fun j hj=> ?_, ?_⟩
 ·refine yF.outs (fun j hj=> Si.block j (by rcases hj with rfl | rfl <;> assumption)) (zD.of_below Si) fun j hj=> ?_
  rcases hj with rfl | hj | hj
  ·exact .inr (by omega)
  ·exact .inr (Ka j hj)
  ·exact .inl (.inr hj)
 ·have:=RL _ e;omega
 ·rcases e with e | e <;> (try simp only at e) <;> omega
 ·have:=Ka j hj;rcases e with e | e <;> (try simp only at e) <;> omega
 ·show 4+200+1 < xs.length
  rw [H2.out.1];omega
 ·rw [H2.out.1];omega
 ·have h1:=H2.out.2.1;have h2:=H2.out.2.2.1;rcases hj with rfl | hj | rfl | rfl
  ·have:=H2.out.2.2.2.2.size;omega
  ·have:=Ka j hj;have:=H2.out.2.2.2.2.size;omega
  ·omega
  ·omega
 ·exact HB.out.1.trans ((H4.out.2.2.2.2.trans (O8.mono H4.out.2.2.2.2.size)).mono HB.out.1.size)
end
section
open Go.RowKit
theorem zsb {w0 w:World} {p:Nat} {h:Ch} {a:StA} {cf:Cfg} {st:PS} {nb k:Nat} {Q:Nat→Prop} {x sq:Nat} {o:PO} {da:Option Addr} {dn dc:Nat} {ma:Option Addr} {mn mc:Nat} (H:EvC w0 w p h a cf st nb k Q x h (Chg.nil st.c sq) (.slice none 0 0) []) (AE:sq=st.seq+1) (hO:OpM w o da dn ma mn) (hR:PoR o) (hk:o.k=1∨o.k=4∨o.k=5):
 Calls Tryz.prog 26 #[.pointer (some ⟨p,0,none⟩), .pointer (some ⟨x,0,none⟩), .agg (opA o da dn dc ma mn mc)] w (EvE w0 Q x (zV cf.win cf.every st.c st.l sq st.clock o)):=by
 rcases hk with e | e | e
 ·rw [show zV cf.win cf.every st.c st.l sq st.clock o=zb1 st.c sq o by unfold zV;rw [if_pos e]]
  exact zkI H AE hO hR e
 ·rw [show zV cf.win cf.every st.c st.l sq st.clock o=zaz st.c st.l sq o by unfold zV;rw [if_neg (by omega),if_neg (by omega),if_neg (by omega),if_pos (.inl e)]]
  exact zkL H AE hO hR e
 ·rw [show zV cf.win cf.every st.c st.l sq st.clock o=zaz st.c st.l sq o by unfold zV;rw [if_neg (by omega),if_neg (by omega),if_neg (by omega),if_pos (.inr e)]]
  exact zkM H AE hO hR e
end
section
open Go.RowKit
theorem zsU {w:World} {p:Nat} {h:Ch} {a:StA} {cf:Cfg} {st:PS} {nb k:Nat} {Q:Nat→Prop} {o:PO} {da:Option Addr} {dn dc:Nat} {ma:Option Addr} {mn mc:Nat} (H:StW w p h a cf st nb k Q) (hO:OpM w o da dn ma mn) (Jd:cf.every < 18446744073709551616) (eg:o.k=1∨o.k=4∨o.k=5):
 Calls Tryz.prog 8 #[.pointer (some ⟨p,0,none⟩), .agg (opA o da dn dc ma mn mc)] w (TryE w Q (zc9 cf.win cf.every st.c st.l st.seq st.clock o)):=by
 have qV:=zh eg;clear eg;obtain ⟨w1,Ab⟩:∃w1,w1=w.alloc (.cells (opA o da dn dc ma mn mc) 28):=⟨_,rfl⟩;have Aa:Below w.heap.size w w1:=by rw [Ab];exact zr.alloc zl _
 have hX:w1.heap[w.heap.size]? =some (.cells (opA o da dn dc ma mn mc) 28 (0,0)):=by rw [Ab];exact heap_alloc_new w _
 have H0:=zh (zn H (zn hO Jd));have Ak:=zh Aa;have CI:=(zg hX).1;have AU:=zh (fun (W:World) (hW:Below w1.heap.size w1 W)=> (hW.block w.heap.size CI).trans hX);have DQ:=zh (fun (W:World) (hW:Below w1.heap.size w1 W)=> show Below w.heap.size w W from Ak.out.trans (hW.mono Ak.out.size));obtain ⟨o0,o1,o2,o3,o4,o5,o6,o7⟩:=rd8 (w:=w1) hX;have Br:=zh (zjc w1 o da dn dc ma mn mc);have G0:=zh (fun (W:World) (hW:Below w1.heap.size w1 W)=> zje o.k o.v o.i o.b o.n o.pt da ma dn dc mn mc o.m W (zk5 (H0.out.2.1.below (DQ.out W hW)).ms) (by have:=H0.out.2.1.few.2;omega))
 have SL:dn=o.d.length:=by have:=H0.out.2.1.bs.length;omega
 obtain ⟨be,Hv⟩:∃be,decide (1≤o.k∧o.k≤14)=be:=⟨_,rfl⟩;obtain ⟨br,AA⟩:∃br,o.right=br:=⟨_,rfl⟩;have Sr:zeC o.k o.v o.i o.b o.n dn o.m=br:=by rw [SL];exact AA
 rw [Hv] at Br;rw [Sr] at G0;have HC:=zh (zn Hv AA);clear H hO Jd Aa hX CI SL Hv AA Sr;unfold opA at *;have J4:=zh (fun (W:World) (hW:Below w1.heap.size w1 W)=> show W.cell? ⟨w.heap.size,0,none⟩=some (.int .i64 o.k)∧W.cell? ⟨w.heap.size,1,none⟩=some (.int .i64 o.v)∧W.cell? ⟨w.heap.size,2,none⟩=some (.int .i64 o.i)∧W.cell? ⟨w.heap.size,3,none⟩=some (.int .i64 o.b)∧W.cell? ⟨w.heap.size,4,none⟩=some (.int .i64 o.n)∧W.cell? ⟨w.heap.size,5,none⟩=some (.int .u64 o.pt)∧W.cell? ⟨w.heap.size,6,none⟩=some (.slice da dn dc)∧W.cell? ⟨w.heap.size,7,none⟩=some (.slice ma mn mc) from ⟨cell_of_row W _ 0 _ _ _ (AU.out W hW),cell_of_row W _ 1 _ _ _ (AU.out W hW),cell_of_row W _ 2 _ _ _ (AU.out W hW),cell_of_row W _ 3 _ _ _ (AU.out W hW),cell_of_row W _ 4 _ _ _ (AU.out W hW),cell_of_row W _ 5 _ _ _ (AU.out W hW),cell_of_row W _ 6 _ _ _ (AU.out W hW),cell_of_row W _ 7 _ _ _ (AU.out W hW)⟩)
 cases be with
 | false=>
   have hP:zc9 cf.win cf.every st.c st.l st.seq st.clock o=(10,Chg.nil st.c st.seq):=by unfold zc9;rw [if_pos (.inl (of_decide_eq_false HC.out.1))]
   rw [hP];clear hP;go_enter Tryz.func8,Tryz.ntmps8;go_upto_region 1 with fail;rw [← Ab];clear Ab;go_wp2_with fail;refine Br.out.mono ?_;rintro r w2 ⟨rfl,Ae⟩;have Ap:=zh (Ak.out.trans (Ae.mono Ak.out.size));clear Ae Br G0 J4 o0 o1 o2 o3 o4 o5 o6 o7;go_wp2_with fail;go_ret2;exact ⟨.pointer none,rfl,Ap.out,fun _=> rfl,fun e=> by cases e⟩
 | true=>
   cases br with
   | false=>
     have hP:zc9 cf.win cf.every st.c st.l st.seq st.clock o=(10,Chg.nil st.c st.seq):=by unfold zc9;rw [if_pos (.inr HC.out.2)]
     rw [hP];clear hP;go_enter Tryz.func8,Tryz.ntmps8;go_upto_region 1 with fail;rw [← Ab];clear Ab;go_wp2_with fail;refine Br.out.mono ?_;rintro r w2 ⟨rfl,Ae⟩;have Cr:=Ae;have EI:=zh Ae;obtain ⟨o0,o1,o2,o3,o4,o5,o6,o7⟩:=J4.out w2 Ae;clear Ae Br Cr;go_wp2_with fail;refine (G0.out w2 EI.out).mono ?_;rintro r w3 ⟨rfl,Am⟩;have Eg:=zh (EI.out.trans (Am.mono EI.out.size));clear Am G0 o0 o1 o2 o3 o4 o5 o6 o7;go_wp2_with fail;go_ret2;exact ⟨.pointer none,rfl,DQ.out _ Eg.out,fun _=> rfl,fun e=> by cases e⟩
   | true=>
     by_cases hs:st.seq=18446744073709551615
     ·have hP:zc9 cf.win cf.every st.c st.l st.seq st.clock o=(50,Chg.nil st.c st.seq):=by unfold zc9;rw [if_neg (by rw [HC.out.2];have:=of_decide_eq_true HC.out.1;simp;omega),if_pos hs]
      rw [hP];clear hP;have HS:=zh hs;clear hs;go_enter Tryz.func8,Tryz.ntmps8;go_upto_region 1 with fail;rw [← Ab];clear Ab;go_wp2_with fail;refine Br.out.mono ?_;rintro r w2 ⟨rfl,Ae⟩;have Cr:=Ae;have EI:=zh Ae;obtain ⟨o0,o1,o2,o3,o4,o5,o6,o7⟩:=J4.out w2 Ae;clear Ae Br Cr;go_wp2_with fail;refine (G0.out w2 EI.out).mono ?_;rintro r w3 ⟨rfl,Am⟩;have Eg:=zh (EI.out.trans (Am.mono EI.out.size));clear Am G0 o0 o1 o2 o3 o4 o5 o6 o7;have s18:=(H0.out.1.below (DQ.out w3 Eg.out)).reads.2.2.2.2.2.2.2.2.2.2.2.2.2.2.2.2.2.2.1;have HN:=zh (zj5 st.seq H0.out.1.inv.seq w3);rw [show zmR st.seq= .tuple #[.int .u64 0, .int .i64 50] from if_pos HS.out] at HN;go_wp2_with fail;refine HN.out.mono ?_;rintro r w4 ⟨rfl,rfl⟩;clear s18 HN;go_wp2_with fail;go_ret2;exact ⟨.pointer none,rfl,DQ.out _ Eg.out,fun _=> rfl,fun e=> by cases e⟩
     ·have hP:zc9 cf.win cf.every st.c st.l st.seq st.clock o=(let r:=zV cf.win cf.every st.c st.l (st.seq+1) st.clock o;if r.1≠0 then r else let t:=za7 r.2.c.times (st.seq+1) st.clock;if t.1≠0 then (t.1,r.2) else (0,{r.2 with c:={r.2.c with times:=t.2}})):=by unfold zc9;rw [if_neg (by rw [HC.out.2];have:=of_decide_eq_true HC.out.1;simp;omega),if_neg hs]
      obtain ⟨sq,AE⟩:∃sq,sq=st.seq+1:=⟨_,rfl⟩;rw [← AE] at hP;obtain ⟨ev,hr⟩:∃ev,zV cf.win cf.every st.c st.l sq st.clock o=ev:=⟨_,rfl⟩;rw [hr] at hP;obtain ⟨res,BQ⟩:∃res,zc9 cf.win cf.every st.c st.l st.seq st.clock o=res:=⟨_,rfl⟩;rw [BQ] at hP;rw [BQ];have Hj:=zh hP;clear BQ;have hR:=PoR.of (of_decide_eq_true HC.out.1) HC.out.2;have HR:=zh (zn hR (zn hr AE));have Rr:=zh (show zmR st.seq= .tuple #[.int .u64 (sq:Int), .int .i64 0] from by rw [AE];exact if_neg hs)
      clear AE;have HS:=zh hs;clear hs hP hr hR;go_enter Tryz.func8,Tryz.ntmps8;go_upto_region 1 with fail;rw [← Ab];clear Ab;go_wp2_with fail;refine Br.out.mono ?_;rintro r w2 ⟨rfl,Ae⟩;have Cr:=Ae;have EI:=zh Ae;obtain ⟨o0,o1,o2,o3,o4,o5,o6,o7⟩:=J4.out w2 Ae;clear Ae Br Cr;go_wp2_with fail;refine (G0.out w2 EI.out).mono ?_;rintro r w3 ⟨rfl,Am⟩;have Eg:=zh (EI.out.trans (Am.mono EI.out.size));clear Am G0 o0 o1 o2 o3 o4 o5 o6 o7;have s18:=(H0.out.1.below (DQ.out w3 Eg.out)).reads.2.2.2.2.2.2.2.2.2.2.2.2.2.2.2.2.2.2.1;have HN:=zh (zj5 st.seq H0.out.1.inv.seq w3);rw [Rr.out] at HN;go_wp2_with fail;refine HN.out.mono ?_;rintro r w4 ⟨rfl,rfl⟩;have Ey:=(H0.out.1.below (DQ.out w4 Eg.out));have SG:=ChM.new (s:=sq) (DQ.out w4 Eg.out) Ey.cat H0.out.1.qlt;have CH:EvC w (w4.alloc (.cells (zb8 h (Chg.nil st.c sq) (.slice none 0 0)) 82)) p h a cf st nb k Q w4.heap.size h (Chg.nil st.c sq) (.slice none 0 0) []:=⟨H0.out.1,(DQ.out w4 Eg.out).alloc (DQ.out w4 Eg.out).size _,SG⟩;have U9:Below w4.heap.size w4 (w4.alloc (.cells (zb8 h (Chg.nil st.c sq) (.slice none 0 0)) 82)):=zr.alloc zl _;obtain ⟨s0,s1,s2,s3,s4,s5,s6,s7,s8,-,-,-,-,-,-,-,-,-,-,-,-⟩:=Ey.reads;have HA:=zh (zn CH U9);clear s18 HN Ey SG CH U9;go_upto_region 6 with fail;go_upto_region 7 with fail;obtain ⟨w5,Co⟩:∃w5,w5=w4.alloc (.cells #[.int .i64 (st.c.nv:Int), .int .i64 (st.c.ng:Int), .int .i64 (st.c.nb:Int), .int .u64 (st.c.fl:Int), .slice h.va st.c.vols.length h.vc, .slice h.ga st.c.groups.length h.gc, .slice h.ba st.c.books.length h.bc, .slice h.ka st.c.kept.length h.kc, .slice h.ta st.c.times.length h.tc, .int .i64 0, .int .i64 0, .slice none 0 0, .int .i64 0, .bool false, .int .u64 (sq:Int)] 82):=⟨_,rfl⟩;rw [← Co];have Nf:EvC w w5 p h a cf st nb k Q w4.heap.size h (Chg.nil st.c sq) (.slice none 0 0) []:=by rw [Co];exact HA.out.1
      have Ag:Below w1.heap.size w1 w5:=Eg.out.trans ((show Below w4.heap.size w4 w5 by rw [Co];exact HA.out.2).mono Eg.out.size)
      have JW:=zh (zsb (dc:=dc) (mc:=mc) Nf HR.out.2.2 (H0.out.2.1.below (DQ.out w5 Ag)) HR.out.1 qV.out);rw [HR.out.2.1] at JW;unfold opA at JW;obtain ⟨o0,o1,o2,o3,o4,o5,o6,o7⟩:=J4.out w5 Ag;obtain ⟨xb,GY⟩:∃xb,w4.heap.size=xb:=⟨_,rfl⟩;rw [GY] at JW;rw [GY];clear Nf Ag Co HA s0 s1 s2 s3 s4 s5 s6 s7 s8;go_wp2_with fail;refine JW.out.mono ?_;rintro r w6 hE;unfold EvE at hE;obtain ⟨rfl,AT,AX⟩:=hE;clear o0 o1 o2 o3 o4 o5 o6 o7 JW;have DW:=zh AT;clear AT
      by_cases hz:ev.1=0
      ·obtain ⟨hc,pv,pl,X6⟩:=AX hz;have ku:=zhP H0.out.1.inv.ct HR.out.1 (g:=ev.2) (by rw [← HR.out.2.2,HR.out.2.1];exact Prod.ext hz rfl)
       have Ui:=ku.2.len;have ZY:=zh (fun (W:World) (hW:Below w6.heap.size w6 W)=> zlM (c:=hc.tc) (X6.cat.below hW).times.row (by omega) sq st.clock)
       have UK:=zh X6;have y8:=X6.reads.2.2.2.2.2.2.2.2.1;have s19:=(H0.out.1.below DW.out).reads.2.2.2.2.2.2.2.2.2.2.2.2.2.2.2.2.2.2.2.1;have HZ:=zh hz;rw [hz];clear ku Ui X6 AX hz;have Dy:=zh (fun (W:World) (hW:Below w6.heap.size w6 W)=> show W.cell? ⟨p,19,none⟩=some (.int .u64 (st.clock:Int))∧W.cell? ⟨xb,8,none⟩=some (.slice hc.ta ev.2.c.times.length hc.tc) from ⟨zbB hW s19,zbB hW y8⟩);have Cu:Below w6.heap.size w6 w6.drew:=zr.drew;go_wp2_with fail
       go_region_held3 (fun W=> W.cell? ⟨p,19,none⟩=some (.int .u64 (st.clock:Int))∧W.cell? ⟨xb,8,none⟩=some (.slice hc.ta ev.2.c.times.length hc.tc)) (first | with_reducible exact Bg | go_keep)
        ((go_at_call 27;((with_reducible refine (ZY.out _ Cu).mono ?_);rintro r w7 ⟨v,rfl,ho,Bz⟩;have Bz:Below w6.heap.size w6 w7:=Cu.trans Bz;have Bg:=Dy.out w7 Bz)))
       clear Bg Cu;have HO:=zh (zn ho Bz);clear ho Bz ZY Dy y8 s19
       by_cases hn:(za7 ev.2.c.times sq st.clock).1=0
       ·obtain ⟨ta,tc,rfl,Ah,-,Gd⟩:=zK.row zR HO.out.1;have X7:=UK.out.below HO.out.2;have X8:=X7.times1 (tc:=tc) Ah (fun b o e hq=> by
         have h1:w6.heap.size≤b:=(Gd b o e).1;rcases hq with hq | hq | hq
         ·have:=H0.out.1.qlt b hq;have:=DW.out.size
          omega
         ·have:=UK.out.xlt
          omega
         ·have:=(UK.out.puts.lt b hq).2
          omega)
        have y8:=X7.reads.2.2.2.2.2.2.2.2.1;have g8:=X7.reads.2.2.2.2.2.2.2.2.2.2.2.2.2.2.2 8;have WQ:=zh X8;have UL:=zh X7.lo;have vg:=zh hn;rw [hn];clear X7 X8 Ah Gd hn;go_wp2_with fail;go_ret2;have hR:=Hj.out;rw [if_neg (by rw [HZ.out];decide),if_neg (by rw [vg.out];decide)] at hR
        rw [hR];exact ⟨.pointer (some ⟨xb,0,none⟩),rfl,(DW.out.trans (HO.out.2.mono DW.out.size)).setCell (p:=⟨xb,8,none⟩) UL.out _,fun e=> absurd rfl e,fun _=> ⟨xb,_,pv,pl,rfl,WQ.out⟩⟩
       ·have C5:(((za7 ev.2.c.times sq st.clock).1:Int) !=0)=true:=by simp;omega
        have ZQ:=zh hn;go_wp2_with fail;go_ret2;have hR:=Hj.out;rw [if_neg (by rw [HZ.out];decide),if_pos ZQ.out] at hR
        rw [hR];exact ⟨.pointer none,rfl,DW.out.trans (HO.out.2.mono DW.out.size),fun _=> rfl,fun e=> absurd e ZQ.out⟩
      ·have Q9:((ev.1:Int) !=0)=true:=by simp;omega
       have HZ:=zh hz;go_wp2_with fail;go_ret2;have hR:=Hj.out;rw [if_pos HZ.out] at hR;rw [hR];exact ⟨.pointer none,rfl,DW.out,fun _=> rfl,fun e=> absurd e HZ.out⟩
end
section
open Go.RowKit
theorem zsa {w:World} {p:Nat} {h:Ch} {a:StA} {cf:Cfg} {st:PS} {nb k:Nat} {Q:Nat→Prop} {B x:Nat} {hc:Ch} {g:Chg} {pv:Value} {pl:List Ph} (H:StW w p h a cf st nb k Q) (X:ChM Q B w x hc g pv pl) (QH:∀j,Q j→j < B) (hg:zfJ st.l g (st.seq+1) st.clock) (AE:st.seq≠18446744073709551615) (hk:k≤61) (G9:k < nb) (Cu:g.drop=0) (Fb:g.prune=false):
 Calls Tryz.prog 9 #[.pointer (some ⟨p,0,none⟩), .pointer (some ⟨x,0,none⟩)] w (ApE w p a cf st nb k Q hc g):=by
 have bb:=zh (zn Cu Fb);clear Cu Fb;obtain ⟨F0,L0,E0,s,lv0,xs,ys0,D0,Xh⟩:=H.mem;have IR:¬Q x:=fun e=> by have:=QH x e;have:=X.lo;omega
 have Ho:=zh (fun (W:World) (Q':Nat→Prop) (hG:StG w Q W Q')=> show W.heap[x]? =some (.cells (zb8 hc g pv) 82 (0,0)) from (hG.block X.xlt IR).trans X.box);have Hk:=zh (fun (W:World) (Q':Nat→Prop) (hG:StG w Q W Q')=> (zK.heap X.puts fun r hr=> hG.block (X.puts.lt r hr).2 fun e=> by have:=QH r e;have:=(X.puts.lt r hr).1;omega).row zfh)
 have VY:=zh (fun (W:World) (Q':Nat→Prop) (hG:StG w Q W Q')=> show zaV Q' W hc g.c from X.cat.outs (hG.outs.more fun _ h=> .inl h) fun j hj=> (hG.new j hj).imp (fun h=> .inl h) id);have Rd:=zh (fun (i:Nat) (wr:World) (hO:ApL w p h a cf st nb k Q s xs g i wr) (y:Ph) (hy:pl[i]? =some y)=> ApL.call H X QH hg AE hk hO hy);have EZ:=zh (ApL.start Xh (zhS H.inv G9) g);obtain ⟨pa,pc,MR,-⟩:=X.puts.row zfh;have vx:=zh MR;have Ac:g.puts.length=pl.length:=by rw [← X.map,List.length_map]
 have y11:w.cell? ⟨x,11,none⟩=some (.slice pa pl.length pc):=by rw [← MR];exact cell_of_row w _ 11 _ _ _ X.box
 have HH:=zh (zn H (zn hg (zn AE (zn hk (zn Ac Xh.qlt)))));obtain ⟨m0,DT⟩:∃m0,pl.length=m0:=⟨_,rfl⟩;rw [DT] at y11;have M9:=zh DT;have GI:m0≤32:=by have:=hg.len;omega
 clear H X QH hg AE hk G9 Xh IR MR Ac DT;go_enter Tryz.func9,Tryz.ntmps9;go_wp2_with fail
 go_loopw [15] (fun u15 wr=> ∃i:Nat,i≤m0∧u15= .int .i64 i∧ApL w p h a cf st nb k Q s xs g i wr) (fun u15 _=> m0 - (intOf u15).toNat)
 case atStart=> exact ⟨0,Nat.zero_le _,rfl,EZ.out⟩
 case round=>
  obtain ⟨i,hi,rfl,hO⟩:=hrel
  by_cases hlt:i < m0
  ·have Bb:(i:Int) < (m0:Int):=by omega
   obtain ⟨y,hy⟩:∃y,pl[i]? =some y:=⟨_,ze (by have:=M9.out;omega)⟩
   have HC:=zh (Rd.out i wr hO y hy);obtain ⟨Q',hG⟩:=hO.grew;obtain ⟨a',cap',DM,Bw,-⟩:=Hk.out wr Q' hG;obtain ⟨g',o',Gy,hcells⟩:=Bw.2 i y hy;have Iy:=vx.out.symm.trans DM;simp only [Value.slice.injEq,true_and] at Iy;obtain ⟨rfl,rfl⟩:=Iy;subst Gy;have c0:=hcells 0 _ rfl;have c1:=hcells 1 _ rfl;have c2:=hcells 2 _ rfl;simp only [Nat.add_zero] at c0;obtain ⟨da,dn,dc,Nx⟩:=zo3 y.d;rw [Nx] at c2;unfold zaT at HC;rw [Nx] at HC;clear hO hG Bw hcells DM hy Nx y11;go_wp2_with fail;refine HC.out.mono ?_;rintro e w5 ⟨rfl,Nj⟩;have LN:=zh Nj;clear Nj HC;go_wp2_with fail
   go_roundw
   case rel=> exact ⟨i+1,by omega,by go_num,LN.out⟩
   case measure=> simp [intOf];omega
  ·obtain rfl:i=m0:=by omega
   have DT:=M9.out;obtain ⟨xb,F1,L1,E1,lv,ys,D,Q1,GY,LZ,Xc⟩:=hO;rw [zk (by have:=HH.out.2.2.2.2.1;omega)] at LZ
   have LZ:=LZ.more (m:=k+1) (by have:=zo1 HH.out.2.1;omega)
   have Lr:=HH.out.2.1;have Gb:=zeX (v:=g.vol) (s:=g.seq) (x:=xb) g.puts HH.out.1.inv.rise;have Pp:Fit (zaP st.l g.vol g.seq xb g.puts):=fun e he=> by
        have C5:=HH.out.1.nbl;have Fc:=HH.out.1.inv.seq;have BF:=Lr.seq;have FK:=HH.out.2.2.1;rcases zeY _ he with h1 | ⟨q,hq,rfl⟩
        ·exact HH.out.1.inv.fit (by omega) e h1
        ·have h4:=Lr.blk q hq;have h5:=Lr.vol;refine ⟨by show za9 g.vol q.b g.seq≤_;unfold za9;omega, ?_⟩
         show puA xb q < _
         rcases zg7 (x:=xb) Lr hq with h5 | ⟨e,he,h5⟩ | h5
         ·omega
         ·have:=(HH.out.1.inv.keys e he).2.2.2;omega
         ·have:=GY.2.1;omega
   have Bu:(zaP st.l g.vol g.seq xb g.puts).length≤2000:=by
        have:=Lr.len;have:=HH.out.1.inv.len;have:=HH.out.2.2.2.1
        omega
   obtain ⟨l1,hl1e⟩:∃l1,l1=zaP st.l g.vol g.seq xb g.puts:=⟨_,rfl⟩;obtain ⟨bl1,Pb⟩:∃bl1,bl1=blP st.bl xb g.puts:=⟨_,rfl⟩;rw [← hl1e,← Pb] at LZ;rw [← hl1e] at Pp Bu;have Re:=zh (zn hl1e (zn Pb GY));have Eh:=zh (zn LZ (zn Xc (zn Pp Bu)));have qp:=Ho.out wr Q1 Xc;have x12:wr.cell? ⟨x,12,none⟩=some (.int .i64 (g.drop:Int)):=cell_of_row wr _ 12 _ _ _ qp;obtain ⟨p9,-,-⟩:=LZ.n.cells;obtain ⟨bd,DF⟩:∃bd,((g.drop:Int) !=0)=bd:=⟨_,rfl⟩;clear LZ Xc Lr Gb Pp Bu hl1e Pb GY qp y11 hlt hi DT
   go_upto_if 31 with fail
   go_cut [] from 32 to 40 (fun wx=> ∃F2 L2 E2 Q2,StM wx p h a cf {st with l:=if g.drop=0 then l1 else zao l1 (zdE l1 g.drop),bl:=bl1} nb (k+1) F2 L2 E2 s lv xs ys D Q2∧StG w Q wx Q2)
   case first=>
        cases bd with
        | false=>
          have EO:g.drop=0:=by simpa using DF
          go_wp2_with fail
          go_meet
          case rel=>
           refine ⟨F1,L1,E1,Q1, ?_,Eh.out.2.1⟩;rw [if_pos EO];exact Eh.out.1
        | true=>
          rw [bb.out.1] at DF
          cases DF
   case rest=>
        rename World=> wc;obtain ⟨F2,L2,E2,Q2,CE,Hp⟩:=hcut;obtain ⟨l2,CC⟩:∃l2,l2=if g.drop=0 then l1 else zao l1 (zdE l1 g.drop):=⟨_,rfl⟩;rw [← CC] at CE;have Ia:Fit l2∧l2.length≤2000:=by
         rw [CC]
         split
         ·exact ⟨Eh.out.2.2.1,Eh.out.2.2.2⟩
         ·exact ⟨fun e he=> Eh.out.2.2.1 e ((zbd _ _).subset he),zs (zbd _ _).length_le Eh.out.2.2.2⟩
        have I0:=zh (zn CC Ia);clear x12 p9 DF CC Ia;go_upto_region 10 with fail;obtain ⟨wd,N8⟩:∃wd,wd=wc.drew:=⟨_,rfl⟩;have Xj:=CE.below (show Below wc.heap.size wc wd from by rw [N8];exact zr.drew)
        have Xd:=Hp.trans (StG.below Q2 (show Below wc.heap.size wc wd from by rw [N8];exact zr.drew))
        have Le:=Ho.out wd Q2 Xd;have Av:True∧(wd.cell? ⟨x,0,none⟩=some (.int .i64 (g.c.nv:Int))∧wd.cell? ⟨x,1,none⟩=some (.int .i64 (g.c.ng:Int))∧wd.cell? ⟨x,2,none⟩=some (.int .i64 (g.c.nb:Int))∧wd.cell? ⟨x,3,none⟩=some (.int .u64 (g.c.fl:Int))∧wd.cell? ⟨x,4,none⟩=some (.slice hc.va g.c.vols.length hc.vc)∧wd.cell? ⟨x,5,none⟩=some (.slice hc.ga g.c.groups.length hc.gc)∧wd.cell? ⟨x,6,none⟩=some (.slice hc.ba g.c.books.length hc.bc)∧wd.cell? ⟨x,7,none⟩=some (.slice hc.ka g.c.kept.length hc.kc)∧wd.cell? ⟨x,8,none⟩=some (.slice hc.ta g.c.times.length hc.tc)∧wd.cell? ⟨x,14,none⟩=some (.int .u64 (g.seq:Int))):=⟨trivial,cell_of_row wd _ 0 _ _ _ Le,cell_of_row wd _ 1 _ _ _ Le,cell_of_row wd _ 2 _ _ _ Le,cell_of_row wd _ 3 _ _ _ Le,cell_of_row wd _ 4 _ _ _ Le,cell_of_row wd _ 5 _ _ _ Le,cell_of_row wd _ 6 _ _ _ Le,cell_of_row wd _ 7 _ _ _ Le,cell_of_row wd _ 8 _ _ _ Le,cell_of_row wd _ 14 _ _ _ Le⟩;have CO:=Xj.box;unfold zcH at CO;obtain ⟨p0,p1,p2,p3,p4,p5,p6,p7,p8⟩:=rd9 (w:=wd) CO;have p18:=cell_of_row wd _ 18 _ _ _ CO;have pf0:wd.frozen? ⟨p,0,none⟩=false:=by simp [World.frozen?,CO]
        have pf1:wd.frozen? ⟨p,1,none⟩=false:=by simp [World.frozen?,CO]
        have pf2:wd.frozen? ⟨p,2,none⟩=false:=by simp [World.frozen?,CO]
        have pf3:wd.frozen? ⟨p,3,none⟩=false:=by simp [World.frozen?,CO]
        have pf4:wd.frozen? ⟨p,4,none⟩=false:=by simp [World.frozen?,CO]
        have pf5:wd.frozen? ⟨p,5,none⟩=false:=by simp [World.frozen?,CO]
        have pf6:wd.frozen? ⟨p,6,none⟩=false:=by simp [World.frozen?,CO]
        have pf7:wd.frozen? ⟨p,7,none⟩=false:=by simp [World.frozen?,CO]
        have pf8:wd.frozen? ⟨p,8,none⟩=false:=by simp [World.frozen?,CO]
        have pf18:wd.frozen? ⟨p,18,none⟩=false:=by simp [World.frozen?,CO]
        have Qn:=zh (zn Xj Xd);clear CE Hp Xj Xd Le;refine zy (by kernel_rfl) [0,1,2,3,4,6,7,8,10,11,12,13,14,15] (fun _=> True) (fun W=> W.cell? ⟨x,0,none⟩=some (.int .i64 (g.c.nv:Int))∧W.cell? ⟨x,1,none⟩=some (.int .i64 (g.c.ng:Int))∧W.cell? ⟨x,2,none⟩=some (.int .i64 (g.c.nb:Int))∧W.cell? ⟨x,3,none⟩=some (.int .u64 (g.c.fl:Int))∧W.cell? ⟨x,4,none⟩=some (.slice hc.va g.c.vols.length hc.vc)∧W.cell? ⟨x,5,none⟩=some (.slice hc.ga g.c.groups.length hc.gc)∧W.cell? ⟨x,6,none⟩=some (.slice hc.ba g.c.books.length hc.bc)∧W.cell? ⟨x,7,none⟩=some (.slice hc.ka g.c.kept.length hc.kc)∧W.cell? ⟨x,8,none⟩=some (.slice hc.ta g.c.times.length hc.tc)∧W.cell? ⟨x,14,none⟩=some (.int .u64 (g.seq:Int))) ?_
        rw [← N8];clear N8;refine tL 0 trivial ?_;refine tL 1 trivial ?_;refine tL 2 trivial ?_;refine tL 3 trivial ?_;refine tL 4 trivial ?_;refine tL 6 trivial ?_;refine tL 7 trivial ?_;refine tL 8 trivial ?_;refine tS 5 Av ?_;refine tS 9 Av ?_;refine tL 10 trivial ?_;refine tL 11 trivial ?_;refine zd (i:=12) (by kernel_rfl) rfl (fun K' hK=> ?_)
        go_simp;refine hK.out _ _ ⟨trivial,fun h=> absurd h (by decide)⟩ ?_
        try simp only [Act.put,List.setIfInBounds_toArray,List.set_cons_zero,List.set_cons_succ]
        clear hK K' Av;have Ad:=zpx CO (.int .i64 (g.c.nv:Int)) (.int .i64 (g.c.ng:Int)) (.int .i64 (g.c.nb:Int)) (.int .u64 (g.c.fl:Int)) (.slice hc.va g.c.vols.length hc.vc) (.slice hc.ga g.c.groups.length hc.gc) (.slice hc.ba g.c.books.length hc.bc) (.slice hc.ka g.c.kept.length hc.kc) (.slice hc.ta g.c.times.length hc.tc);have BL:=zp3 (B:=p) (zD.refl _ wd) rfl hc g.c;generalize World.setCell _ (⟨p,8,none⟩:Addr) _=wE at *;clear p0 p1 p2 p3 p4 p5 p6 p7 p8 p18 pf0 pf1 pf2 pf3 pf4 pf5 pf6 pf7 pf8 pf18;have p18:wE.cell? ⟨p,18,none⟩=some (.int .u64 (st.seq:Int)):=cell_of_row wE _ 18 _ _ _ Ad;have pf18:wE.frozen? ⟨p,18,none⟩=false:=by simp [World.frozen?,Ad]
        refine tL 13 trivial ?_;refine tL 14 trivial ?_;refine zd (i:=15) (by kernel_rfl) rfl (fun K' hK=> ?_)
        go_simp;refine hK.out _ _ ⟨trivial,fun h=> absurd h (by decide)⟩ ?_
        try simp only [Act.put,List.setIfInBounds_toArray,List.set_cons_zero,List.set_cons_succ]
        clear hK K';have K2:(wE.setCell ⟨p,18,none⟩ (.int .u64 (g.seq:Int))).heap[p]? =some (.cells #[.int .i64 (g.c.nv:Int), .int .i64 (g.c.ng:Int), .int .i64 (g.c.nb:Int), .int .u64 (g.c.fl:Int), .slice hc.va g.c.vols.length hc.vc, .slice hc.ga g.c.groups.length hc.gc, .slice hc.ba g.c.books.length hc.bc, .slice hc.ka g.c.kept.length hc.kc, .slice hc.ta g.c.times.length hc.tc, .pointer (some ⟨a.ph,0,none⟩), .pointer (some ⟨a.pd,0,none⟩), .int .i64 (a.lg:Int), .int .i64 cf.sectors, .int .i64 cf.log, .int .u64 (cf.seq:Int), .int .u64 (cf.clock:Int), .int .u64 (cf.win:Int), .int .u64 (cf.every:Int), .int .u64 (g.seq:Int), .int .u64 (st.clock:Int)] 60 (0,0)):=heap_setCell_same _ p 18 _ _ _ Ad;have MY:zD (fun j=> j=p) wd (wE.setCell ⟨p,18,none⟩ (.int .u64 (g.seq:Int))):=BL.trans (zD.turn (D:=fun j=> j=p) (zq wE ⟨p,18,none⟩ _) rfl) (fun _ h=> .inl h);clear Ad BL p18 pf18;generalize World.setCell _ (⟨p,18,none⟩:Addr) _=wG at *;refine zI (by kernel_rfl) ?_ _
        have EK:=Qn.out.1.turned MY (h':=hc) (c':=g.c) (sq:=g.seq) K2 (VY.out wG Q2 (Qn.out.2.trans ⟨fun _ h=> .inl h,MY.more fun j hj=> by rw [hj];exact (Qn.out.1.dom p).2 (.inl rfl)⟩))
        have Fh:StG w Q wG Q2:=Qn.out.2.trans ⟨fun _ h=> .inl h,MY.more fun j hj=> by rw [hj];exact (Qn.out.1.dom p).2 (.inl rfl)⟩
        have LB:=Ho.out wG Q2 Fh;have x13:wG.cell? ⟨x,13,none⟩=some (.bool g.prune):=cell_of_row wG _ 13 _ _ _ LB;have On:=zh (zn EK Fh);have VS:=zh K2;clear K2 MY CO EK Fh LB;obtain ⟨bp,Fm⟩:∃bp,g.prune=bp:=⟨_,rfl⟩;have AJ:=zh (fun (w':World) (Q':Nat→Prop) (l3:List En) F3 L3 E3 (Gc:l3=zch g xb st.l) (hM:StM w' p hc a cf {st with c:=g.c,l:=l3,bl:=bl1,seq:=g.seq} nb (k+1) F3 L3 E3 s lv xs ys D Q') (hG:StG w Q w' Q')=> show ∃x Q',zcn nb st.l x∧StW w' p hc a cf (zcJ st g x) nb (k+1) Q'∧StG w Q w' Q' from by
         refine ⟨xb,Q',Re.out.2.2,⟨zhu HH.out.1.inv HH.out.2.2.1 HH.out.2.1 Re.out.2.2.2.1,HH.out.1.nbl,by have:=HH.out.2.2.2.1;omega,F3,L3,E3,s,lv,xs,ys,D, ?_⟩,hG⟩
         unfold zcJ;rw [← Gc,← Re.out.2.1];exact hM)
        rw [Fm] at x13
        cases bp with
        | false=>
          go_wp2_with fail;go_ret;refine ⟨rfl,AJ.out wG Q2 l2 F2 L2 E2 ?_ On.out.1 On.out.2⟩;unfold zch;simp only;rw [Fm,I0.out.1,Re.out.1]
          rfl
        | true=>
          rw [bb.out.2] at Fm
          cases Fm
end
section
open Go.RowKit
def cfZ:Cfg:=⟨0,0,0,0,0,0⟩
theorem zsv:zpH cfZ:=⟨by decide,by decide,by decide,by decide⟩
def SqP (st:PS) (l:List PO):Prop:=(l= []∧st=stZ)∨∃t,l=zrT::t∧(∀o ∈ t,Gd o)∧SqS 200 st (t.length+1) fun b=> t.foldl (tb b) (none,0)
theorem SqP.next {st:PS} {l:List PO} {o:PO} (h:SqP st l) (hl:l.length≤40) (ho:l= []∧o=zrT∨l≠ []∧Gd o):
 ∃g,zc9 0 0 st.c st.l st.seq st.clock o=(0,g)∧g.drop=0∧g.prune=false∧∀x,zcn 200 st.l x→SqP (zcJ st g x) (l++ [o]):=by
 rcases h with ⟨rfl,rfl⟩ | ⟨t,rfl,hg,hS⟩
 ·rcases ho with ⟨-,rfl⟩ | ⟨h,-⟩
  ·refine ⟨_,zr1,rfl,rfl,fun x hx=> .inr ⟨[],rfl,fun o ho=> (by cases ho), ?_⟩⟩
   have:=SqS.new 200 x hx.2.1;rw [zr1] at this;exact this
  ·exact absurd rfl h
 ·rcases ho with ⟨h,-⟩ | ⟨-,h⟩
  ·cases h
  ·have hm:t.length+1≤100:=by rw [List.length_cons] at hl;omega
   obtain ⟨t',ht⟩:=hS.try (win:=0) (ev:=0) h hm
   refine ⟨_,ht,rfl,rfl,fun x hx=> .inr ⟨t++ [o],rfl,fun y hy=> ?_, ?_⟩⟩
   ·rcases List.mem_append.1 hy with hy | hy
    ·exact hg y hy
    ·rw [List.mem_singleton.1 hy];exact h
   ·have:=hS.step (win:=0) (ev:=0) h hm hx;rw [ht] at this;simp only [List.length_append,List.length_singleton,List.foldl_append,List.foldl_cons,List.foldl_nil];exact this
theorem ChM.less {Q R:Nat→Prop} {B:Nat} {w:World} {x:Nat} {h:Ch} {g:Chg} {pv:Value} {pl:List Ph} (X:ChM R B w x h g pv pl) (hQ:∀j,Q j→R j):ChM Q B w x h g pv pl:=
 ⟨X.box,X.lo,X.cat.outs (zD.refl _ _) fun j hj=> .inl (hj.imp (hQ j) id),X.puts,X.ne,X.map,fun y hy z hz=> ⟨(X.dat y hy z hz).1,fun hj=> (X.dat y hy z hz).2 (hj.imp (hQ _) id)⟩⟩
structure SqW (w2 wr:World) (Q0 I:Nat→Prop) (p:Nat) (a:StA) (l:List PO):Prop where
 ex:∃h Q st,StW wr p h a cfZ st 200 l.length Q∧zaV (fun j=> Q j∨I j) wr h st.c∧StG w2 Q0 wr Q∧SqP st l
 dis:∀j,Q0 j→¬I j
 far:∀j,I j→j < w2.heap.size∧NoB w2 j
section
variable {w2 wr:World} {Q0 I:Nat→Prop} {p:Nat} {a:StA} {l:List PO}
theorem SqW.apart (H:SqW w2 wr Q0 I p a l) {Q:Nat→Prop} (hG:StG w2 Q0 wr Q):(∀j,Q j→¬I j)∧∀j,I j→j < wr.heap.size∧NoB wr j:=
 ⟨fun j hj hi=> (hG.new j hj).elim (fun h0=> H.dis j h0 hi) fun h1=> by have:=(H.far j hi).1;omega,
  fun j hi=> ⟨zt (H.far j hi).1 hG.outs.size,(H.far j hi).2.heap (hG.outs.block j (H.far j hi).1 fun h0=> H.dis j h0 hi)⟩⟩
theorem SqW.run {o:PO} {da ma:Option Addr} {dn mn:Nat} (dc mc:Nat) (H:SqW w2 wr Q0 I p a l) (hO:OpM wr o da dn ma mn) (hl:l.length≤40) (ho:l= []∧o=zrT∨l≠ []∧Gd o):
 Calls Tryz.prog 8 #[.pointer (some ⟨p,0,none⟩), .agg (opA o da dn dc ma mn mc)] wr fun e w5=> ∃x,e= .returned (.tuple #[.pointer (some ⟨x,0,none⟩), .int .i64 0])∧Below wr.heap.size wr w5∧
  Calls Tryz.prog 9 #[.pointer (some ⟨p,0,none⟩), .pointer (some ⟨x,0,none⟩)] w5 fun e w6=> e= .returned (.int .i64 0)∧SqW w2 w6 Q0 I p a (l++ [o]):=by
 obtain ⟨h,Q,st,hW,hC,hG,hP⟩:=H.ex;obtain ⟨hd,hI⟩:=H.apart hG;have hk:o.k=1∨o.k=4∨o.k=5:=by
  rcases ho with ⟨-,rfl⟩ | ⟨-,hg⟩
  ·exact .inl rfl
  ·have:=hg.num;omega
 obtain ⟨g,ht,Ib,Jg,ES⟩:=hP.next hl ho;obtain ⟨-,AE,Mr⟩:=zem hW.inv.ct ht;refine (zsU (dc:=dc) (mc:=mc) (hW.widen hC hd hI) hO (by decide) hk).mono ?_
 rintro e w5 hE;rw [show zc9 cfZ.win cfZ.every st.c st.l st.seq st.clock o=(0,g) from ht] at hE;obtain ⟨v,rfl,Ag,-,hv⟩:=hE;obtain ⟨x,hc,pv,pl,rfl,X⟩:=hv rfl;have eP:zaV (fun j=> Q j∨I j) w5 hc g.c:=X.cat.outs (zD.refl _ _) fun j hj=> .inl (.inl hj);refine ⟨x,rfl,Ag,(zsa (hW.below Ag) (X.less fun _=> .inl) hW.qlt Mr AE (by omega) (by omega) Ib Jg).mono ?_⟩
 rintro e w6 ⟨rfl,x6,Q6,LC,Mc,dS⟩;refine ⟨rfl,⟨hc,Q6,_,by rw [List.length_append];exact Mc,eP.outs (dS.outs.more fun _=> .inl) fun j hj=> hj.elim (fun h6=> (dS.new j h6).imp .inl id) fun hi=> .inl (.inr hi),hG.trans ((StG.below Q Ag).trans dS),ES x6 LC⟩,H.dis,H.far⟩
theorem SqW.bel {w0:World} {C:Nat} (H:SqW w2 wr Q0 I p a l) (hb:Below C w0 w2) (hQ:∀j,Q0 j→C≤j) (hC:C≤w2.heap.size):Below C w0 wr:=by
 obtain ⟨h,Q,st,hW,SZ,hG,hP⟩:=H.ex;exact zbr hb hG.outs hQ hC
theorem SqW.outs (H:SqW w2 wr Q0 I p a l):zD Q0 w2 wr:=by
 obtain ⟨h,Q,st,hW,SZ,hG,hP⟩:=H.ex;exact hG.outs
theorem SqW.kept {w':World} (H:SqW w2 wr Q0 I p a l) (ho:zD I wr w'):∃h Q st,StW w' p h a cfZ st 200 l.length Q∧StG w2 Q0 wr Q∧SqP st l:=by
 obtain ⟨h,Q,st,hW,hC,hG,hP⟩:=H.ex;obtain ⟨hd,hI⟩:=H.apart hG;exact ⟨h,Q,st,(hW.keep hC hd hI ho).1,hG,hP⟩
end
theorem SqW.start {w w':World} {p s:Nat} {a:StA} {E:Nat→Prop} {xs:List Sh} {B:Nat} (H:StM w p zpO a cfZ (st0 cfZ) 200 0 (znG 200) [] E s (.slice none 0 0) xs [] (fun j=> j=a.pd∨j=s) (fun j=> j=p∨E j∨(j=a.pd∨j=s))) (hB:∀j,(j=p∨E j∨(j=a.pd∨j=s))→B≤j) (hb:Below w.heap.size w w'):
 ∃Q,StW w' p zpO a cfZ stZ 200 0 Q∧(∀j,Q j→B≤j∧j < w.heap.size∧NoB w' j):=by
 obtain ⟨E',Q,hM,hQ,hN⟩:=H.bare rfl (by decide)
 have hW:StW w p zpO a cfZ stZ 200 0 Q:=⟨zpA cfZ zsv 200,by omega,by omega,_,_,_,_,_,_,_,_,hM⟩
 exact ⟨Q,hW.below hb,fun j hj=> ⟨hB j (hQ j hj),hW.qlt j hj,(hN j hj).heap (hb.block j (hW.qlt j hj))⟩⟩
theorem SqW.of {w2:World} {Q I:Nat→Prop} {p:Nat} {a:StA} (H:StW w2 p zpO a cfZ stZ 200 0 Q) (hd:∀j,Q j→¬I j) (hI:∀j,I j→j < w2.heap.size∧NoB w2 j):SqW w2 w2 Q I p a []:=
 ⟨⟨zpO,Q,stZ,H,zl2 _ _ _,StG.refl _ _, .inl ⟨rfl,rfl⟩⟩,hd,hI⟩
theorem SqW.again {w5 w6:World} {Q I:Nat→Prop} {p:Nat} {a:StA} (H:StW w5 p zpO a cfZ stZ 200 0 Q) (hd:∀j,Q j→¬I j) (hI:∀j,I j→j < w5.heap.size∧NoB w5 j) (ho:zD I w5 w6):SqW w6 w6 Q (fun _=> False) p a []:=
 SqW.of (H.keep (zl2 _ _ _) hd hI ho).1 (fun _ _ h=> h) fun _ h=> h.elim
theorem zsz {t:List PO} (hg:∀o ∈ t,Gd o) {i:Nat} {o:PO} (h:(zrT::t)[i]? =some o):(zrT::t).take i= []∧o=zrT∨(zrT::t).take i≠ []∧Gd o:=by
 cases i with
 | zero=> exact .inl ⟨rfl,by simpa using h.symm⟩
 | succ i=> exact .inr ⟨by simp,hg o (zm (by simpa using h))⟩
theorem zsZ (t:List PO):z6 (zrT::t)=zrT::z6 t:=rfl
theorem zs9 {st tt:PS} {t:List PO} (hg:∀o ∈ t,Gd o) (hs:SqP st (zrT::t)) (ht:SqP tt (zrT::z6 t)):
 (∀b:Nat,b < 32→∃d,d.length=64∧zly st 1 (b:Int)=(0,d)∧zly tt 1 (b:Int)=(0,d))∧tt.l.length≤st.l.length:=by
 rcases hs with ⟨h,-⟩ | ⟨t1,h1,-,hS⟩
 ·cases h
 ·rcases ht with ⟨h,-⟩ | ⟨t2,h2,-,hT⟩
  ·cases h
  ·cases h1
   cases h2
   refine ⟨fun b hb=> ⟨_, ?_,hS.read hb, ?_⟩, ?_⟩
   ·cases hd:(t.foldl (tb b) (none,0)).1 with
    | none=> simp
    | some d=>
      exact zs1 t (none,0) (fun d h=> by cases h) d hd
   ·rw [hT.read hb];simp only [zsH t hg]
   ·rw [hS.len,hT.len];exact zs3 fun b _=> (ztf (zsI t) (b:=b) (q:=(none,0)) (r:=(none,0)) ⟨zl,zl⟩).1
end
end Go.Proofs.YtfldlfladcfggaaGreat
