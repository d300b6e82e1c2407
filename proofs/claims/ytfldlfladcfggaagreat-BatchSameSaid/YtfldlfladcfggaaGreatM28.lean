/- Lemmas of the walks, merged and pressed by press.py. Conditions: those of each theorem. -/
import Derived.Test.YtfldlfladcfggaaGreatM20
import Derived.Test.YtfldlfladcfggaaGreatM27
import Derived.Lib.Strings
import Derived.Lib.Slices
import Derived.Lib.Small
import Derived.Lib.Walk
import Derived.Lib.BitFns
import Derived.Laws.Bits64
import Derived.Sort.Row
import Derived.Laws.Bits64b
import Derived.Test.YtfldlfladcfggaaGreatM26
import Derived.Test.YtfldlfladcfggaaGreatM25
import Derived.Laws.CopyOwn
import Derived.Test.YtfldlfladcfggaaGreatM3
import Derived.Test.YtfldlfladcfggaaGreatM21
import Derived.Test.YtfldlfladcfggaaGreatM16
import Derived.Test.YtfldlfladcfggaaGreatM2
import Derived.Test.YtfldlfladcfggaaGreatM15
set_option maxRecDepth 100000
set_option maxHeartbeats 64000000
set_option linter.all false
namespace Go.Proofs.YtfldlfladcfggaaGreat
section
open Go.RowKit
section
variable {Q:Nat→Prop}
end
end
section
open Go.RowKit
section
variable {Q:Nat→Prop}
end
end
section
open Go.RowKit
theorem zoC (w:World):∃w',(Instr.makeSlice 25 (.int .i64 64) (.int .i64 64)).run Tryz.prog w= .ok (.slice (some ⟨w.heap.size,0,none⟩) 64 64) w'∧w'.heap[w.heap.size]? =some (.cells (zc (List.replicate 64 0)).toArray 5 (0,0))∧Below w.heap.size w w':=by
 obtain ⟨i0,hi,AG,Ai,Ax⟩:=info_parts zi2;have hr:=run_make (P:=Tryz.prog) w 25 5 i0 (.int .u8 0) Tryz.underlying25 hi AG .i64 .i64 64 64 (by omega) (by omega) (by rw [Ax];omega) (by omega)
 rw [Ai] at hr;have e:madeCells (Value.int .u8 0).cells (Int.toNat 64 * 1)=(zc (List.replicate 64 0)).toArray:=by kernel_rfl
 rw [e] at hr;exact ⟨_,hr,heap_alloc_new w _,zr.alloc zl _⟩
theorem zjK {w:World} {g:Nat} {l:List UInt8} {t:TypeId} (h:w.heap[g]? =some (.cells (zc l).toArray t (0,0))):Bs w (some ⟨g,0,none⟩) l.length l:=by
 refine Is.mk' (by simp) fun i hi=> ?_
 rw [Nat.zero_add,cell_of_row w g i _ _ _ h,zdn l i hi];simp [zc,hi]
theorem zjV {w:World} {b:Option Addr} {n:Nat} (cap:Nat) {l:List UInt8} (h:Bs w b n l):
 Calls Tryz.prog 70 #[.slice b n cap] w fun e w'=> ∃g,e= .returned (.slice (some ⟨g,0,none⟩) 64 64)∧w'.heap[g]? =some (.cells (zc (zdy l)).toArray 5 (0,0))∧w.heap.size≤g∧Below w.heap.size w w':=by
 obtain ⟨w1,QU,hx,Aa⟩:=zoC w;have hl:=h.length;have h1:=h.below Aa zl;have H1:=zh (zn hx (zn Aa (zn h1 hl)));have Gg:splice (zc (List.replicate 64 0)) 0 (zc (l.take 64))=zc (zdy l):=by
  unfold splice zdy zc;rw [List.take_zero,List.nil_append,Nat.zero_add,List.length_map,← List.map_drop,← List.map_append,List.drop_replicate,List.length_take]
  congr 3
  omega
 have Rz:=zh Gg;have Ac:(zc (l.take 64)).length=Nat.min n 64:=by
  show (zc (l.take 64)).length=min n 64
  simp [zc];omega
 have BP:0 < (zc (l.take 64)).length→(some ⟨w.heap.size,0,none⟩:Option Addr)=some ⟨w.heap.size,0,none⟩∧∃ad,b=some ad∧∀j v,(zc (l.take 64))[j]? =some v→w1.cell? (ad.add j)=some v:=by
  intro hp;refine ⟨rfl, ?_⟩;obtain ⟨b',o',c,rfl,-,-,-⟩:=Bs.cell h1 0 (by simp [zc] at hp;omega)
  refine ⟨_,rfl,fun j v hj=> ?_⟩;have FT:j < (zc (l.take 64)).length:=(zi hj).1;simp [zc] at FT;obtain ⟨b2,o2,c2,e2,Bd,Cg,-⟩:=Bs.cell h1 j (by omega)
  cases e2
  rw [zdt,Cg];simp only [zc,List.getElem?_map] at hj;rw [List.getElem?_take_of_lt (by omega),Bd] at hj
  simpa using hj
 have FR:0+(zc (l.take 64)).length≤(zc (List.replicate 64 0)).length:=by simp [zc];omega
 have BA:∀v ∈ zc (l.take 64),v.oneCell'=true:=by
  intro v hv;unfold zc at hv;obtain ⟨c,-,rfl⟩:=List.mem_map.1 hv
  rfl
 have HP:=zh (zn Ac (zn BP (zn FR BA)));clear hx h1 h hl Gg Ac BP FR BA;go_enter Tryz.func70,Tryz.ntmps70
 go_wp2_with (with_reducible refine wpList_copy_splice rfl (.tmp 5) (.tmp 6) 25 25 rfl 5 Tryz.underlying25 (by kernel_rfl) (some ⟨w.heap.size,0,none⟩) b 64 64 n cap rfl rfl w.heap.size 0 (zc (List.replicate 64 0)) 5 H1.out.1 (zc (l.take 64)) HP.out.1 HP.out.2.1 HP.out.2.2.1 HP.out.2.2.2 w.heap.size w H1.out.2.1 zl (fun w2 Dw Ae=> ?_))
 have Dw:=Dw.out;rw [Rz.out] at Dw;have H2:=zh (zn Dw Ae);clear Dw Ae;go_wp2_with fail;go_ret;exact ⟨_,rfl,H2.out.1,zl,H2.out.2⟩
theorem zms:zdy []=List.replicate 64 0:=by unfold zdy;simp
theorem zhA {w:World} {p:Nat} {h:Ch} {a:StA} {cf:Cfg} {st:PS} {nb k:Nat} {Q:Nat→Prop} (H:StW w p h a cf st nb k Q) {v b t:Nat}:
 Calls Tryz.prog 34 #[.pointer (some ⟨p,0,none⟩), .int .u32 (atL st.l v b t:Int)] w fun e w'=> ∃r,e= .returned (.tuple #[r, .int .i64 0])∧w'.ownsRow w.heap.size 5 1 r (zbX st.bl (atL st.l v b t)).length (zc (zbX st.bl (atL st.l v b t)))∧(zbX st.bl (atL st.l v b t)).length=64∧Below w.heap.size w w':=by
 have CQ:=zeO st.l v b t;generalize atL st.l v b t=at0 at *
 by_cases h0:at0=0
 ·subst h0;have HF:=zh (zjV (w:=w) (b:=none) 0 (l:= []) (Bs.none' none));clear H CQ;go_enter Tryz.func34,Tryz.ntmps34;go_wp2_with fail;refine HF.out.mono ?_;rintro e w1 ⟨g,rfl,hx,hg,hb⟩;have HX:=zh (zn hx (zn hg hb));clear hx hg hb HF;go_wp2_with fail;go_ret2;rw [show zbX st.bl 0=List.replicate 64 0 from if_pos rfl,← zms];refine ⟨.slice (some ⟨g,0,none⟩) 64 64,rfl,⟨by simp [zc], .inr ⟨g,64,_,by rw [zaK],HX.out.2.1,HX.out.1,by rw [zaK];exact zl,by unfold maxLen;omega,by simp [zc,zaK], ?_⟩⟩,zaK _,HX.out.2.2⟩
  rw [zaK];exact zk (by simp [zc,zaK])
 ·have i0:((at0:Int)==0)=false:=by rw [beq_eq_false_iff_ne];omega
  obtain ⟨e0,Ms,Ny⟩:∃e ∈ st.l,e.2=at0:=CQ.resolve_left h0;have hk:=(H.inv.keys e0 Ms).2.2.2;have Fm:zbX st.bl at0=st.bl at0:=if_neg h0;obtain ⟨F,L,E,s,lv,xs,ys,D,hM⟩:=H.mem;obtain ⟨QZ,E9⟩:=hM.pages e0 Ms (by omega)
  rw [Ny] at QZ E9;obtain ⟨-,-,-,-,-,-,-,-,-,-,x10,x11,-,-,-,-,-,-,-,-,-⟩:=H.reads;have HR:=zh (zg4 hM.disk (a:=at0) (lg:=a.lg) (by have:=H.nbl;omega) (by have:=hM.room;omega) (by have:=hM.room;omega) (by have:=hM.many;have:=H.kl;omega))
  rw [QZ] at HR;rw [Fm];clear hM QZ Fm CQ Ms Ny;have HL:=zh E9;clear H E9 hk;go_enter Tryz.func34,Tryz.ntmps34;go_wp2_with fail;refine HR.out.mono ?_;rintro e w1 ⟨⟨g,c,rfl,hc,hg,Au⟩,hb⟩;have HP:=zh (zll (w:=w1) c 6 (by omega) (l:=st.bl at0) (by have:=HL.out;omega) Au hc)
  have HB:=zh hb;clear hb Au hc hg HR;go_wp2_with fail;refine HP.out.mono ?_;rintro e w2 ⟨r,rfl,ho,Ae⟩;have HO:=zh (zn ho Ae);clear ho Ae HP;go_wp2_with fail;go_ret2;exact ⟨r,rfl,zc0 HO.out.1 HB.out.size,HL.out,HB.out.trans (HO.out.2.mono HB.out.size)⟩
def zaD (c:Ct) (v b m:Int):Nat × Nat:=match c.find v with
 | none=> (0,40)
 | some x=> if b < 0∨(zas x.sizes:Int) - b < m then (0,41) else (zas x.sizes,0)
theorem zen {w:World} {p:Nat} {h:Ch} {a:StA} {cf:Cfg} {st:PS} {nb k:Nat} {Q:Nat→Prop} (H:StW w p h a cf st nb k Q) (v b m:Int) (hb:b≤9223372036854775807):
 Calls Tryz.prog 33 #[.pointer (some ⟨p,0,none⟩), .int .i64 v, .int .i64 b, .int .i64 m] w fun e w'=> e= .returned (.tuple #[.int .i64 ((zaD st.c v b m).1:Nat), .int .i64 ((zaD st.c v b m).2:Nat)])∧Below w.heap.size w w':=by
 have HV:=zh (zcI H.cat H.inv.ct v);obtain ⟨x0,x1,x2,x3,x4,x5,x6,x7,x8,-,-,-,-,-,-,-,-,-,-,-,-⟩:=H.reads;unfold Ch.val Ch.cells at HV
 cases hf:st.c.find v with
 | none=>
   have hw:zaD st.c v b m=(0,40):=by unfold zaD;rw [hf]
   have HW:=zh hw;rw [hf,zme] at HV;clear H hw hf;go_enter Tryz.func33,Tryz.ntmps33;go_wp2_with fail;refine HV.out.mono ?_;rintro e w1 ⟨rfl,Aa⟩;have HB:=zh Aa;clear Aa HV;go_wp2_with fail;go_ret2;exact ⟨by rw [HW.out];rfl,HB.out⟩
 | some x=>
   have AR:=zbR (H.inv.ct.vols x (za0 hf).1).sizes;have Fo:st.c.size v=zas x.sizes:=by unfold Ct.size;rw [hf]
   rw [hf,zmf,Fo] at HV;have hw:zaD st.c v b m=if b < 0∨(zas x.sizes:Int) - b < m then (0,41) else (zas x.sizes,0):=by unfold zaD;rw [hf]
   have HW:=zh hw;clear H hw hf Fo;generalize zas x.sizes=z at *
   by_cases Aq:b < 0
   ·go_enter Tryz.func33,Tryz.ntmps33;go_wp2_with fail;refine HV.out.mono ?_;rintro e w1 ⟨rfl,Aa⟩;have HB:=zh Aa;clear Aa HV;go_wp2_with fail;go_ret2;exact ⟨by rw [HW.out,if_pos (.inl Aq)];rfl,HB.out⟩
   ·have i1:IntKind.i64.wrap ((z:Int) - b)=(z:Int) - b:=zw _ (by omega)
    by_cases hm:(z:Int) - b < m
    ·go_enter Tryz.func33,Tryz.ntmps33;go_wp2_with fail;refine HV.out.mono ?_;rintro e w1 ⟨rfl,Aa⟩;have HB:=zh Aa;clear Aa HV;go_wp2_with fail;go_ret2;exact ⟨by rw [HW.out,if_pos (.inr hm)];rfl,HB.out⟩
    ·go_enter Tryz.func33,Tryz.ntmps33;go_wp2_with fail;refine HV.out.mono ?_;rintro e w1 ⟨rfl,Aa⟩;have HB:=zh Aa;clear Aa HV;go_wp2_with fail;go_ret2;exact ⟨by rw [HW.out,if_neg (by omega)];rfl,HB.out⟩
def zfL (w:World) (r:Nat × List UInt8) (e:Ending) (w':World):Prop:=((r.1≠0∧e= .returned (.tuple #[.slice none 0 0, .int .i64 (r.1:Int)]))∨(r.1=0∧r.2.length=64∧∃v,e= .returned (.tuple #[v, .int .i64 0])∧w'.ownsRow w.heap.size 5 1 v r.2.length (zc r.2)))∧Below w.heap.size w w'
end
section
open Go.RowKit
theorem zna {st:PS} {s k:Nat} (hi:CtI st.c s k) (v b:Int):((zaD st.c v b 1).2≠0∧zly st v b=((zaD st.c v b 1).2, []))∨((zaD st.c v b 1).2=0∧zly st v b=(0,zbX st.bl (atL st.l v.toNat b.toNat st.seq))∧(0≤v∧v≤65535)∧0≤b∧b < 1000):=by
 unfold zaD zly
 cases hf:st.c.find v with
 | none=> exact .inl ⟨by simp,rfl⟩
 | some y=>
   have h1:=za0 hf;have h2:=(hi.vols y h1.1).id;have h3:=hi.nv;have h4:=zbR (hi.vols y h1.1).sizes;simp only
   by_cases h:b < 0∨(zas y.sizes:Int) - b < 1
   ·rw [if_pos h,if_pos (by omega)];exact .inl ⟨by simp,rfl⟩
   ·rw [if_neg h,if_neg (by omega)];exact .inr ⟨rfl,rfl,by omega,by omega,by omega⟩
theorem zm9 {w:World} {p:Nat} {h:Ch} {a:StA} {cf:Cfg} {st:PS} {nb k:Nat} {Q:Nat→Prop} (H:StW w p h a cf st nb k Q) (v b:Int) (hb:b≤9223372036854775807):
 Calls Tryz.prog 10 #[.pointer (some ⟨p,0,none⟩), .int .i64 v, .int .i64 b] w (zfL w (zly st v b)):=by
 have HW:=zh (zen H v b 1 hb);have AW:=zna (st:=st) H.inv.ct v b;obtain ⟨⟨z,ec⟩,ST⟩:∃r,zaD st.c v b 1=r:=⟨_,rfl⟩;rw [ST] at HW AW;simp only at HW AW;have HC:=zh AW;have HH:=zh H;clear H AW ST;go_enter Tryz.func10,Tryz.ntmps10;go_wp2_with fail;refine HW.out.mono ?_;rintro e w5 ⟨rfl,Ag⟩;have A8:=zh Ag;clear Ag HW
 by_cases CG:ec=0
 ·subst CG;rcases HC.out with ⟨h0,-⟩ | ⟨-,hE,hv,Ae⟩
  ·exact absurd rfl h0
  ·have HE:=zh hE;have H5:=zh (HH.out.below A8.out);obtain ⟨vn,rfl⟩:∃vn:Nat,v=(vn:Int):=⟨v.toNat,by omega⟩
   obtain ⟨bn,rfl⟩:∃bn:Nat,b=(bn:Int):=⟨b.toNat,by omega⟩
   obtain ⟨F,L,E,Hq⟩:=H5.out.hist;have Cj:=zh (fun (W:World) (hW:Below w5.heap.size w5 W)=> zf6 (Hq.below hW) H5.out.llen vn bn st.seq (by omega) (by omega) H5.out.inv.seq)
   have Az:=zh (fun (W:World) (hW:Below w5.heap.size w5 W)=> show W.cell? ⟨p,9,none⟩=some (.pointer (some ⟨a.ph,0,none⟩))∧W.cell? ⟨p,18,none⟩=some (.int .u64 (st.seq:Int)) from ⟨(H5.out.below hW).reads.2.2.2.2.2.2.2.2.2.1,(H5.out.below hW).reads.2.2.2.2.2.2.2.2.2.2.2.2.2.2.2.2.2.2.1⟩);have Cu:Below w5.heap.size w5 w5.drew:=zr.drew;have LF:=zh (fun (W:World) (hW:Below w.heap.size w W)=> zhA (HH.out.below hW) (v:=vn) (b:=bn) (t:=st.seq));have s9:=H5.out.reads.2.2.2.2.2.2.2.2.2.1;have s18:=H5.out.reads.2.2.2.2.2.2.2.2.2.2.2.2.2.2.2.2.2.2.1;unfold zv at Cj;clear Hq hv Ae hE;rw [show (((0:Nat)):Int)=0 from rfl];go_wp2_with fail
   go_region_held3 (fun W=> W.cell? ⟨p,9,none⟩=some (.pointer (some ⟨a.ph,0,none⟩))∧W.cell? ⟨p,18,none⟩=some (.int .u64 (st.seq:Int))) (first | with_reducible exact Bg | with_reducible exact Ca | go_keep)
        (first | ((go_at_call 35;((with_reducible refine (Cj.out _ Cu).mono ?_);rintro e w6 ⟨rfl,AT⟩;have AT:Below w5.heap.size w5 w6:=Cu.trans AT;have Bg:=Az.out w6 AT))) | ((go_at_call 34;((with_reducible refine (LF.out _ (A8.out.trans (AT.mono A8.out.size))).mono ?_);rintro e w7 ⟨r,rfl,Jo,NJ,B1⟩;have Ca:=Az.out w7 (AT.trans (B1.mono AT.size))))))
   have DW:=zh (A8.out.trans (AT.mono A8.out.size));have H7:=zh (zn Jo (zn NJ B1));clear Jo NJ B1 Bg Ca Cj LF s9 s18 Az;go_wp2_with fail;go_ret2;unfold zfL;rw [HE.out];exact ⟨.inr ⟨rfl,by simpa using H7.out.2.1,r,rfl,by simpa using zc0 H7.out.1 DW.out.size⟩,DW.out.trans (H7.out.2.2.mono DW.out.size)⟩
 ·have i0:((ec:Int) !=0)=true:=by simp;omega
  rcases HC.out with ⟨h0,hE⟩ | ⟨h0,-⟩
  ·have HE:=zh hE;have Rq:=zh CG;clear CG hE h0;go_wp2_with fail;go_ret2;unfold zfL;exact ⟨.inl ⟨by rw [HE.out];exact Rq.out,by rw [HE.out];rfl⟩,A8.out⟩
  ·exact absurd h0 CG
end
section
open Go.RowKit
structure Ph where
 b:Nat
 a:Nat
 d:Option (Nat × List UInt8)
def dV:Option (Nat × List UInt8)→Value
 | none=> .slice none 0 0
 | some x=> .slice (some ⟨x.1,0,none⟩) 64 64
def zaT (x:Ph):List Value:= [.int .i64 (x.b:Int), .int .u32 (x.a:Int),dV x.d]
def Ph.pu (x:Ph):Pu:=⟨x.b,x.a,x.d.map (·.2)⟩
theorem zfh (x:Ph):(zaT x).length=3:=rfl
theorem zmg (x:Ph):∀u ∈ zaT x,u.oneCell'=true:=fun u hu=> by
 simp [zaT] at hu;rcases hu with rfl | rfl | rfl
 ·rfl
 ·rfl
 ·cases x.d <;> rfl
theorem zpS:(Tryz.prog.info? 88).map (fun i=> (i.zero,i.size,i.bytes))=some (some (.agg #[.int .i64 0, .int .u32 0, .slice none 0 0]),3,40):=by kernel_rfl
def zb8 (h:Ch) (g:Chg) (pv:Value):Array Value:=#[.int .i64 (g.c.nv:Int), .int .i64 (g.c.ng:Int), .int .i64 (g.c.nb:Int), .int .u64 (g.c.fl:Int), .slice h.va g.c.vols.length h.vc, .slice h.ga g.c.groups.length h.gc, .slice h.ba g.c.books.length h.bc, .slice h.ka g.c.kept.length h.kc, .slice h.ta g.c.times.length h.tc, .int .i64 (g.id:Int), .int .i64 (g.vol:Int),pv, .int .i64 (g.drop:Int), .bool g.prune, .int .u64 (g.seq:Int)]
structure ChM (Q:Nat→Prop) (B:Nat) (w:World) (x:Nat) (h:Ch) (g:Chg) (pv:Value) (pl:List Ph):Prop where
 box:w.heap[x]? =some (.cells (zb8 h g pv) 82 (0,0))
 lo:B≤x
 cat:zaV (fun j=> Q j∨j=x∨pv.ownBlock=some j) w h g.c
 puts:zK zaT 3 88 w B pv pl
 ne:pv.ownBlock≠some x
 map:pl.map Ph.pu=g.puts
 dat:∀y ∈ pl,∀z,y.d=some z→Bs w (some ⟨z.1,0,none⟩) 64 z.2∧¬(Q z.1∨z.1=x∨pv.ownBlock=some z.1)
section
variable {Q:Nat→Prop} {B:Nat} {w:World} {x:Nat} {h:Ch} {g:Chg} {pv:Value} {pl:List Ph}
theorem ChM.xlt (X:ChM Q B w x h g pv pl):x < w.heap.size:=(zg X.box).1
theorem ChM.reads (X:ChM Q B w x h g pv pl):w.cell? ⟨x,0,none⟩=some (.int .i64 (g.c.nv:Int))∧w.cell? ⟨x,1,none⟩=some (.int .i64 (g.c.ng:Int))∧w.cell? ⟨x,2,none⟩=some (.int .i64 (g.c.nb:Int))∧w.cell? ⟨x,3,none⟩=some (.int .u64 (g.c.fl:Int))∧w.cell? ⟨x,4,none⟩=some (.slice h.va g.c.vols.length h.vc)∧w.cell? ⟨x,5,none⟩=some (.slice h.ga g.c.groups.length h.gc)∧w.cell? ⟨x,6,none⟩=some (.slice h.ba g.c.books.length h.bc)∧w.cell? ⟨x,7,none⟩=some (.slice h.ka g.c.kept.length h.kc)∧w.cell? ⟨x,8,none⟩=some (.slice h.ta g.c.times.length h.tc)∧w.cell? ⟨x,9,none⟩=some (.int .i64 (g.id:Int))∧w.cell? ⟨x,10,none⟩=some (.int .i64 (g.vol:Int))∧w.cell? ⟨x,11,none⟩=some (pv)∧w.cell? ⟨x,12,none⟩=some (.int .i64 (g.drop:Int))∧w.cell? ⟨x,13,none⟩=some (.bool g.prune)∧w.cell? ⟨x,14,none⟩=some (.int .u64 (g.seq:Int))∧∀j,w.frozen? ⟨x,j,none⟩=false:=by
 have hb:=X.box;exact ⟨cell_of_row w _ 0 _ _ _ hb,cell_of_row w _ 1 _ _ _ hb,cell_of_row w _ 2 _ _ _ hb,cell_of_row w _ 3 _ _ _ hb,cell_of_row w _ 4 _ _ _ hb,cell_of_row w _ 5 _ _ _ hb,cell_of_row w _ 6 _ _ _ hb,cell_of_row w _ 7 _ _ _ hb,cell_of_row w _ 8 _ _ _ hb,cell_of_row w _ 9 _ _ _ hb,cell_of_row w _ 10 _ _ _ hb,cell_of_row w _ 11 _ _ _ hb,cell_of_row w _ 12 _ _ _ hb,cell_of_row w _ 13 _ _ _ hb,cell_of_row w _ 14 _ _ _ hb,fun j=> by simp [World.frozen?,hb]⟩
theorem ChM.blk (X:ChM Q B w x h g pv pl) {y:Ph} (hy:y ∈ pl) {z:Nat × List UInt8} (hz:y.d=some z):z.1 < w.heap.size:=by
 obtain ⟨b,o,c,e,-,-,h1⟩:=Bs.cell (X.dat y hy z hz).1 0 (by omega)
 cases e
 exact h1
theorem ChM.below {w':World} (X:ChM Q B w x h g pv pl) (hb:Below w.heap.size w w'):ChM Q B w' x h g pv pl:=
 ⟨(hb.block x X.xlt).trans X.box,X.lo,X.cat.below hb,X.puts.below hb zl,X.ne,X.map,fun y hy z hz=> ⟨(X.dat y hy z hz).1.below hb zl,(X.dat y hy z hz).2⟩⟩
theorem ChM.turn {w':World} {h':Ch} {g':Chg} (X:ChM Q B w x h g pv pl) (hb:w'.heap[x]? =some (.cells (zb8 h' g' pv) 82 (0,0))) (hg:w.grownBy w' (some x)) (hc:zaV (fun j=> Q j∨j=x∨pv.ownBlock=some j) w h' g'.c) (hp:g'.puts=g.puts):ChM Q B w' x h' g' pv pl:=
 ⟨hb,X.lo,hc.outs ((zD.turn (D:=fun j=> j=x) hg rfl).more fun j hj=> .inr (.inl hj)) (fun j hj=> .inl hj),zK.heap X.puts fun r hr=> hg.block r (X.puts.lt r hr).2 fun e=> X.ne (by rw [hr];exact e),X.ne,X.map.trans hp.symm,fun y hy z hz=> ⟨Bs.heap (X.dat y hy z hz).1 (hg.block z.1 (X.blk hy hz) fun e=> (X.dat y hy z hz).2 (.inr (.inl (by simpa using e)))),(X.dat y hy z hz).2⟩⟩
theorem ChM.push (X:ChM Q B w x h g pv pl) (hQ:∀j,Q j→j < w.heap.size) (y:Ph) (hd:∀z,y.d=some z→Bs w (some ⟨z.1,0,none⟩) 64 z.2∧¬(Q z.1∨z.1=x∨pv.ownBlock=some z.1)) (hl:pl.length≤1000) (hB:B≤w.heap.size):
 ∃ v' w',(Builtin.append_ #[80,80] 80 #[pv, .slice (some ⟨w.heap.size,0,none⟩) 1 1]).run Tryz.prog (w.alloc (.cells (zaT y).toArray 88))= .ok v' w'∧
   (w'.cell? ⟨x,11,none⟩=some pv∧w'.frozen? ⟨x,11,none⟩=false)∧(w.alloc (.cells (zaT y).toArray 88)).cell? ⟨x,11,none⟩=some pv∧(∃a n c,v'= .slice a n c)∧
   ChM Q B (w'.setCell ⟨x,11,none⟩ v') x h {g with puts:=g.puts++ [y.pu]} v' (pl++ [y])∧Below B w (w'.setCell ⟨x,11,none⟩ v') ∧zD (fun j=> j=x∨pv.ownBlock=some j) w (w'.setCell ⟨x,11,none⟩ v')∧∀j,v'.ownBlock=some j→pv.ownBlock=some j∨j=w.heap.size+1:=by
 have AR:=World.alloc_size w (.cells (zaT y).toArray 88);obtain ⟨v',w',hr,ho,hg,hk⟩:=zK.pushAt2 zfh (by decide) zmg Tryz.underlying80 zpS rfl (by decide) X.puts y (by omega) hB
 have CI:=X.xlt;have Il:w'.heap[x]? =w.heap[x]? :=hg.block x CI fun e=> X.ne e.symm;have AH:=Il.trans X.box;have e1:=heap_setCell_same w' x 11 _ _ v' AH;have Cf:=zq w' ⟨x,11,none⟩ v';have JK:∀r,pv.ownBlock=some r→r < w.heap.size:=fun r hr=> (X.puts.lt r hr).2;have Aq:Below B w w':=Below.own (Below.refl B w) X.puts hg zl hB;have Aa:Below B w (w'.setCell ⟨x,11,none⟩ v'):=Aq.setCell (p:=⟨x,11,none⟩) X.lo v';have Gj:∀j,v'.ownBlock=some j→pv.ownBlock=some j∨j=w.heap.size+1:=fun j hj=> by
  rcases hk with hk | hk
  ·exact .inl (by rw [← hk];exact hj)
  ·rw [hk] at hj;exact .inr (by simpa using hj.symm)
 have Bo:zD (fun j=> j=x∨pv.ownBlock=some j) w (w'.setCell ⟨x,11,none⟩ v'):=
  (zD.of_grown (D:=fun j=> j=x∨pv.ownBlock=some j) hg fun r hr=> .inl (.inr hr)).trans (zD.turn (D:=fun j=> j=x∨pv.ownBlock=some j) Cf (.inl rfl)) fun _ h=> .inl h
 have Bi:=X.cat.outs (Q':=fun j=> Q j∨j=x∨v'.ownBlock=some j) (Bo.more fun j hj=> .inr hj) fun j hj=> by
  rcases hj with hj | hj | hj
  ·exact .inl (.inl hj)
  ·exact .inl (.inr (.inl hj))
  ·rcases Gj j hj with h1 | h1
   ·exact .inl (.inr (.inr h1))
   ·exact .inr (by omega)
 have Ku:∀z:Nat × List UInt8,Bs w (some ⟨z.1,0,none⟩) 64 z.2→¬(Q z.1∨z.1=x∨pv.ownBlock=some z.1)→Bs (w'.setCell ⟨x,11,none⟩ v') (some ⟨z.1,0,none⟩) 64 z.2∧¬(Q z.1∨z.1=x∨v'.ownBlock=some z.1):=fun z h1 h2=> by
  obtain ⟨b,o,c,e,-,-,F5⟩:=Bs.cell h1 0 (by omega)
  cases e
  refine ⟨Bs.heap h1 (Bo.block z.1 F5 fun hd=> h2 (.inr hd)),fun hq=> ?_⟩;rcases hq with hq | hq | hq
  ·exact h2 (.inl hq)
  ·exact h2 (.inr (.inl hq))
  ·rcases Gj _ hq with h3 | h3
   ·exact h2 (.inr (.inr h3))
   ·omega
 have KK:v'.ownBlock≠some x:=fun e=> by
  rcases Gj x e with h1 | h1
  ·exact X.ne h1
  ·omega
 refine ⟨v',w',hr,⟨cell_of_row w' _ 11 _ _ _ AH,by simp [World.frozen?,AH]⟩, ?_,ho.form,⟨?_,X.lo,Bi,zK.heap ho fun r hr=> Cf.block r (ho.lt r hr).2 fun e=> KK (by rw [hr];exact e),KK, ?_,fun z hz u hu=> ?_⟩,Aa,Bo,Gj⟩
 ·rw [World.cell?_alloc_lt _ _ _ CI];exact cell_of_row w _ 11 _ _ _ X.box
 ·exact e1
 ·rw [List.map_append,X.map];rfl
 ·rcases List.mem_append.1 hz with hz | hz
  ·exact Ku u (X.dat z hz u hu).1 (X.dat z hz u hu).2
  ·simp at hz;subst hz;exact Ku u (hd u hu).1 (hd u hu).2
end
structure EvC (w0 w:World) (p:Nat) (h:Ch) (a:StA) (cf:Cfg) (st:PS) (nb k:Nat) (Q:Nat→Prop) (x:Nat) (hc:Ch) (g:Chg) (pv:Value) (pl:List Ph):Prop where
 st:StW w0 p h a cf st nb k Q
 bel:Below w0.heap.size w0 w
 chg:ChM Q w0.heap.size w x hc g pv pl
theorem EvC.stw {w0 w:World} {p:Nat} {h:Ch} {a:StA} {cf:Cfg} {st:PS} {nb k:Nat} {Q:Nat→Prop} {x:Nat} {hc:Ch} {g:Chg} {pv:Value} {pl:List Ph} (H:EvC w0 w p h a cf st nb k Q x hc g pv pl):StW w p h a cf st nb k Q:=H.st.below H.bel
theorem EvC.below {w0 w w':World} {p:Nat} {h:Ch} {a:StA} {cf:Cfg} {st:PS} {nb k:Nat} {Q:Nat→Prop} {x:Nat} {hc:Ch} {g:Chg} {pv:Value} {pl:List Ph} (H:EvC w0 w p h a cf st nb k Q x hc g pv pl) (hb:Below w.heap.size w w'):EvC w0 w' p h a cf st nb k Q x hc g pv pl:=⟨H.st,H.bel.trans (hb.mono H.bel.size),H.chg.below hb⟩
def EvE (w0:World) (Q:Nat→Prop) (x:Nat) (r:Nat × Chg) (e:Ending) (w':World):Prop:=e= .returned (.int .i64 (r.1:Int))∧Below w0.heap.size w0 w'∧(r.1=0→∃hc pv pl,ChM Q w0.heap.size w' x hc r.2 pv pl)
def opA (o:PO) (da:Option Addr) (dn dc:Nat) (ma:Option Addr) (mn mc:Nat):Array Value:=#[.int .i64 o.k, .int .i64 o.v, .int .i64 o.i, .int .i64 o.b, .int .i64 o.n, .int .u64 o.pt, .slice da dn dc, .slice ma mn mc]
structure OpM (w:World) (o:PO) (da:Option Addr) (dn:Nat) (ma:Option Addr) (mn:Nat):Prop where
 bs:Bs w da dn o.d
 ms:zM zcm 1 w ma mn o.m
 few:dn≤300∧mn≤100
 fit:o.v≤9223372036854775807∧o.i≤9223372036854775807∧o.b≤9223372036854775807∧o.n≤9223372036854775807
 pt:0≤o.pt∧o.pt < 18446744073709551616
theorem OpM.below {w w':World} {o:PO} {da:Option Addr} {dn:Nat} {ma:Option Addr} {mn:Nat} (H:OpM w o da dn ma mn) (hb:Below w.heap.size w w'):OpM w' o da dn ma mn:=⟨H.bs.below hb zl,H.ms.below hb zl,H.few,H.fit,H.pt⟩
theorem evS {w0 w:World} {p:Nat} {h:Ch} {a:StA} {cf:Cfg} {st:PS} {nb k:Nat} {Q:Nat→Prop} {x sq:Nat} {o:PO} {da:Option Addr} {dn:Nat} {ma:Option Addr} {mn:Nat} (H:EvC w0 w p h a cf st nb k Q x h (Chg.nil st.c sq) (.slice none 0 0) []) (AE:sq=st.seq+1) (hO:OpM w o da dn ma mn) (dc mc:Nat):
 ∃w1,w1=w.alloc (.cells (opA o da dn dc ma mn mc) 28)∧w1.heap[w.heap.size]? =some (.cells (opA o da dn dc ma mn mc) 28 (0,0))∧Hid (EvC w0 w1 p h a cf st nb k Q x h (Chg.nil st.c sq) (.slice none 0 0) [])∧x≠w.heap.size∧Hid (w1.heap[w.heap.size]? =some (.cells (opA o da dn dc ma mn mc) 28 (0,0))∧w1.heap.size=w.heap.size+1∧sq=st.seq+1∧OpM w1 o da dn ma mn)∧Hid (∀W,Below w1.heap.size w1 W→W.heap[w.heap.size]? =some (.cells (opA o da dn dc ma mn mc) 28 (0,0))):=by
 obtain ⟨w1,Ab⟩:∃w1,w1=w.alloc (.cells (opA o da dn dc ma mn mc) 28):=⟨_,rfl⟩;have Aa:Below w.heap.size w w1:=by rw [Ab];exact zr.alloc zl _
 have Ai:w1.heap.size=w.heap.size+1:=by rw [Ab,World.alloc_size]
 have hX:w1.heap[w.heap.size]? =some (.cells (opA o da dn dc ma mn mc) 28 (0,0)):=by rw [Ab];exact heap_alloc_new w _
 exact ⟨w1,Ab,hX,H.below Aa,fun e=> by have:=H.chg.xlt;omega,⟨hX,Ai,AE,hO.below Aa⟩,fun W hW=> (hW.block w.heap.size (by omega)).trans hX⟩
end
section
open Go.RowKit
structure StN (w:World) (p:Nat) (h:Ch) (a:StA) (cf:Cfg) (st:PS) (nb:Nat) (F:List Nat) (L:List Uc) (E:Nat→Prop) (s:Nat) (lv:Value) (xs:List Sh) (ys:List Wh) (D:Nat→Prop) (Q:Nat→Prop):Prop where
 box:w.heap[p]? =some (.cells (zcH h a cf st) 60 (0,0))
 cat:zaV Q w h st.c
 hist:zaF w a.ph a.pt a.pa st.l F L nb E
 disk:zbC Q w a.pd s lv xs ys false 0 D
 dom:∀j,Q j↔j=p∨E j∨D j
 ne:¬E p∧¬D p∧∀j,E j→¬D j
section
variable {w:World} {p:Nat} {h:Ch} {a:StA} {cf:Cfg} {st:PS} {nb:Nat} {Q:Nat→Prop} {F:List Nat} {L:List Uc} {E:Nat→Prop} {s:Nat} {lv:Value} {xs:List Sh} {ys:List Wh} {D:Nat→Prop}
theorem StM.n {k:Nat} (H:StM w p h a cf st nb k F L E s lv xs ys D Q):StN w p h a cf st nb F L E s lv xs ys D Q:=⟨H.box,H.cat,H.hist,H.disk,H.dom,H.ne⟩
theorem StN.m {k:Nat} (H:StN w p h a cf st nb F L E s lv xs ys D Q) (hi:zcR nb st.l F L) (hp:∀e ∈ st.l,e.2≠0→zfD (xs.map (·.d)) (zbp ys) (a.lg+e.2+1)=zcC 6 (st.bl e.2)∧(st.bl e.2).length=64) (hr:a.lg+nb+1 < xs.length∧xs.length≤4096) (hm:ys.length≤k):StM w p h a cf st nb k F L E s lv xs ys D Q:=
 ⟨H.box,H.cat,H.hist,hi,H.disk,H.dom,H.ne,hp,hr,hm⟩
theorem StN.plt (H:StN w p h a cf st nb F L E s lv xs ys D Q):p < w.heap.size:=(zg H.box).1
theorem StN.qlt (H:StN w p h a cf st nb F L E s lv xs ys D Q):∀j,Q j→j < w.heap.size:=fun j hj=> by
 rcases (H.dom j).1 hj with rfl | hj | hj
 ·exact H.plt
 ·exact H.hist.lt j hj
 ·exact H.disk.lt j hj
theorem StN.below {w':World} (H:StN w p h a cf st nb F L E s lv xs ys D Q) (hb:Below w.heap.size w w'):StN w' p h a cf st nb F L E s lv xs ys D Q:=
 ⟨(hb.block p H.plt).trans H.box,H.cat.below hb,H.hist.below hb,H.disk.below hb,H.dom,H.ne⟩
theorem StN.cells (H:StN w p h a cf st nb F L E s lv xs ys D Q):w.cell? ⟨p,9,none⟩=some (.pointer (some ⟨a.ph,0,none⟩))∧w.cell? ⟨p,10,none⟩=some (.pointer (some ⟨a.pd,0,none⟩))∧w.cell? ⟨p,11,none⟩=some (.int .i64 (a.lg:Int)):=
 ⟨cell_of_row w _ 9 _ _ _ H.box,cell_of_row w _ 10 _ _ _ H.box,cell_of_row w _ 11 _ _ _ H.box⟩
structure StG (w:World) (Q:Nat→Prop) (w':World) (Q':Nat→Prop):Prop where
 new:∀j,Q' j→Q j∨w.heap.size≤j
 outs:zD Q w w'
theorem StG.refl (w:World) (Q:Nat→Prop):StG w Q w Q:=⟨fun _ h=> .inl h,zD.refl _ _⟩
theorem StG.trans {w1 w2 w3:World} {Q1 Q2 Q3:Nat→Prop} (h:StG w1 Q1 w2 Q2) (k:StG w2 Q2 w3 Q3):StG w1 Q1 w3 Q3:=
 ⟨fun j hj=> (k.new j hj).elim (h.new j) fun h1=> .inr (zs h.outs.size h1),h.outs.trans k.outs h.new⟩
theorem StG.below {w w':World} (Q:Nat→Prop) (hb:Below w.heap.size w w'):StG w Q w' Q:=⟨fun _ h=> .inl h,zD.of_below hb⟩
theorem StG.block {w1 w2:World} {Q1 Q2:Nat→Prop} (h:StG w1 Q1 w2 Q2) {j:Nat} (hj:j < w1.heap.size) (hq:¬Q1 j):w2.heap[j]? =w1.heap[j]? :=h.outs.block j hj hq
theorem StG.far {w1 w2:World} {Q1 Q2:Nat→Prop} (h:StG w1 Q1 w2 Q2) {j:Nat} (hj:j < w1.heap.size) (hq:¬Q1 j):¬Q2 j:=fun VB=> (h.new j VB).elim hq fun h1=> by omega
theorem StN.histed {w':World} {l':List En} {F':List Nat} {L':List Uc} (H:StN w p h a cf st nb F L E s lv xs ys D Q) (hT:HT a.ph a.pt a.pa nb E w l' F' L' w'):
 ∃E' Q',StN w' p h a cf {st with l:=l'} nb F' L' E' s lv xs ys D Q'∧StG w Q w' Q':=by
 obtain ⟨E',h1,h2,h3⟩:=hT;have jf:∀j,E j→Q j:=fun j hj=> (H.dom j).2 (.inr (.inl hj));have B6:∀j,(j=p∨E' j∨D j)→Q j∨w.heap.size≤j:=fun j hj=> by
  rcases hj with rfl | hj | hj
  ·exact .inl ((H.dom _).2 (.inl rfl))
  ·exact (h2.new j hj).imp (jf j) id
  ·exact .inl ((H.dom j).2 (.inr (.inr hj)))
 have P1:=H.plt;have DB:=H.disk.lt;have QX:=h3.more jf;refine ⟨E',fun j=> j=p∨E' j∨D j,⟨(h3.block p P1 H.ne.1).trans H.box,H.cat.outs QX B6,h1,H.disk.outs (fun j hj=> h3.block j (DB j hj) fun e=> H.ne.2.2 j e hj) QX B6,fun j=> Iff.rfl,fun e=> ?_,H.ne.2.1,fun j hj hd=> ?_⟩,B6,QX⟩
 ·rcases h2.new p e with h4 | h4
  ·exact H.ne.1 h4
  ·omega
 ·rcases h2.new j hj with h4 | h4
  ·exact H.ne.2.2 j h4 hd
  ·have:=DB j hd;omega
theorem StN.wrote {w':World} {lv':Value} {ys':List Wh} {D':Nat→Prop} (H:StN w p h a cf st nb F L E s lv xs ys D Q) (hW:zbC (fun j=> Q j∨D' j) w' a.pd s lv' xs ys' false 0 D') (hg:zba D w D' w') (ho:zD D w w'):
 ∃Q',StN w' p h a cf st nb F L E s lv' xs ys' D' Q'∧StG w Q w' Q':=by
 have Nd:∀j,D j→Q j:=fun j hj=> (H.dom j).2 (.inr (.inr hj));have B6:∀j,(j=p∨E j∨D' j)→Q j∨w.heap.size≤j:=fun j hj=> by
  rcases hj with rfl | hj | hj
  ·exact .inl ((H.dom _).2 (.inl rfl))
  ·exact .inl ((H.dom j).2 (.inr (.inl hj)))
  ·exact (hg.new j hj).imp (Nd j) id
 have P1:=H.plt;have RM:=H.hist.lt;have QX:=ho.more Nd;refine ⟨fun j=> j=p∨E j∨D' j,⟨(ho.block p P1 H.ne.2.1).trans H.box,H.cat.outs QX B6,H.hist.kept (ho.kept RM fun j hj hd=> H.ne.2.2 j hj hd),hW.outs (fun _ _=> rfl) (zD.refl _ _) (fun j hj=> .inl ?_),fun j=> Iff.rfl,H.ne.1,fun e=> ?_,fun j hj hd=> ?_⟩,B6,QX⟩
 ·rcases hj with rfl | hj | hj
  ·exact .inl ((H.dom _).2 (.inl rfl))
  ·exact .inl ((H.dom j).2 (.inr (.inl hj)))
  ·exact .inr hj
 ·rcases hg.new p e with h4 | h4
  ·exact H.ne.2.1 h4
  ·omega
 ·rcases hg.new j hd with h4 | h4
  ·exact H.ne.2.2 j hj h4
  ·have:=RM j hj;omega
end
theorem zlD (sure:List (List UInt8)) (ys:List Wh) (i j:Nat) (y:Sh):zfD sure (zbp (ys++ [⟨i,y⟩])) j=if i=j then y.d else zfD sure (zbp ys) j:=by
 unfold zfD zbp;rw [List.map_append];simp only [List.map_cons,List.map_nil];rw [zlb]
 by_cases h:i=j <;> simp [h]
theorem zpc {nb:Nat} {l:List En} {F:List Nat} {L:List Uc} (h:zcR nb l F L) {x:Nat} (hx:x ∈ F):zcn nb l x:=by
 have h1:=(h.all x).2 (.inl hx);refine ⟨h1.1,h1.2,fun e he e2=> ?_⟩;have h2:=h.dis x hx;rw [h.cnt x h1.1] at h2;have:=zgF he;rw [e2] at this
 omega
theorem zpb {nb:Nat} {l:List En} {F:List Nat} {L:List Uc} (h:zcR nb l F L) {x:Nat} (hx:zcn nb l x):F≠ []:=fun e=> by
 rcases (h.all x).1 ⟨hx.1,hx.2.1⟩ with h1 | h1
 ·rw [e] at h1;cases h1
 ·rw [h.cnt x hx.1] at h1;unfold zlS at h1;obtain ⟨e,he⟩:=List.exists_mem_of_length_pos h1;obtain ⟨h2,h3⟩:=List.mem_filter.1 he;exact hx.2.2 e h2 (of_decide_eq_true h3)
def VerE (w:World) (p:Nat) (h:Ch) (a:StA) (cf:Cfg) (st:PS) (nb k:Nat) (Q:Nat→Prop) (s:Nat) (xs:List Sh) (vol sq:Nat) (y:Pu) (e:Ending) (w':World):Prop:=
 e= .returned (.int .i64 0)∧∃x F L E lv ys D Q',(y.d≠none→zcn nb st.l x)∧StM w' p h a cf {st with l:=zaR st.l (za9 vol y.b sq,puA x y),bl:=blP st.bl x [y]} nb (k+if y.d=none then 0 else 1) F L E s lv xs ys D Q'∧StG w Q w' Q'
end
section
open Go.RowKit
set_option maxRecDepth 100000
set_option maxHeartbeats 16000000
theorem rdA {W:World} {b:Nat} {r:Array Value} {t:TypeId} (h:W.heap[b]? =some (.cells r t (0,0))) (i:Nat):W.cell? ⟨b,i,none⟩=r[i]? ∧W.frozen? ⟨b,i,none⟩=false:=by simp [World.cell?,World.frozen?,h]
section
variable {P:Program} {ops:Array Oper} {Q:Exit→Act→World→Prop} {md:Region.Mode} {S:World→Prop} {a a':Act} {w:World} {d:Option Nat} {oi:Oper} {v:Value} {n m f:Nat} {e:List Nat}
def pre (k n:Nat) (e:List Nat):Array Bool:=((List.range k).map fun j=> decide (j < n) || e.contains j).toArray
theorem zoM {k n:Nat} (h:n < k):(pre k n e).setIfInBounds n true=pre k (n+1) e:=by
 apply Array.ext
 ·simp [pre]
 ·intro i h1 h2
  by_cases c:n=i
  ·subst c;simp [pre]
  ·simp [pre,c,show (i < n+1)=(i < n) from propext ⟨fun _=> by omega,fun _=> by omega⟩]
theorem zoN {k n i:Nat} (_:i < k):(pre k n e).setIfInBounds i true=pre k n (i::e):=by
 apply Array.ext
 ·simp [pre]
 ·intro j h1 h2
  by_cases c:i=j
  ·subst c;simp [pre]
  ·simp [pre,c,Ne.symm c]
def zjy (P:Program) (md:Region.Mode) (ops:Array Oper) (Q:Exit→Act→World→Prop) (S:World→Prop) (e:List Nat) (n f:Nat):Act→World→Prop:=ze2 P md ops Q (fun _ w=> S w) f (pre ops.size n e)
theorem rg {id:Nat} (S:World→Prop) (h:S w.drew→zjy P .any ops Q S [] 0 ops.size a w.drew) (hS:S w.drew) (hm:P.follows .mixedOrders=true:=by kernel_rfl):(Code.region id ops true).wp P Q a w:=
 wp_region_any hm (zjG _ _ _ _ (by
  have c:Array.replicate ops.size false=pre ops.size 0 []:=by apply Array.ext <;> simp [pre]
  rw [c];exact h hS))
theorem zmk (hn:n < ops.size) (hm:n+1=m) {o:Oper} (hr:Region.ready md ops (pre ops.size n e)= [n]) (ho:ops[n]? =some o)
 (h:∀K':Act→World→Prop,Shut (∀a w,S w→zjy P md ops Q S e m f a w→K' a w)→if Region.wanted o (yielded ops a.tmps)=true then Oper.wp P o a w K' Q else K' (a.put o.dst undef) w):zjy P md ops Q S e n (f+1) a w:=by
 subst hm;unfold zjy at *;refine zd hr ho fun K' hK=> h K' ?_;rw [← zoM hn];exact hK
theorem sk (h:zjy P md ops Q S e m f a w) (hm:n+1=m:=by (try simp only [Nat.reduceAdd]);rfl) (hn:e.contains n=true:=by rfl):zjy P md ops Q S e n f a w:=by
 subst hm;have c:pre ops.size n e=pre ops.size (n+1) e:=by
  apply Array.ext
  ·simp [pre]
  ·intro i h1 h2
   by_cases c:n=i
   ·subst c;simp at hn;simp [pre,hn]
   ·simp [pre,show (i < n+1)=(i < n) from propext ⟨fun _=> by omega,fun _=> by omega⟩]
 unfold zjy at *;rw [c];exact h
def tkB (md:Region.Mode) (ops:Array Oper) (e:List Nat) (n:Nat):Bool:=
 decide (n < ops.size) && Region.noSelect ops && Region.free md ops (pre ops.size n e) n && (Region.ready md ops (pre ops.size n e)).contains n && zl4 md ops (pre ops.size n e)
theorem tk (h:zjy P md ops Q S e m f a' w) (hi:ops[n]? =some oi:=by rfl) (hm:n+1=m:=by (try simp only [Nat.reduceAdd]);rfl) (hS:S w:=by assumption)
 (hb:tkB md ops e n=true:=by kernel_rfl) (hw:Region.wanted oi (yielded ops a.tmps)=true:=by rfl) (hy:∀w',S w'→(execOp a.eval oi).run P w'= .ok (.value v) w':=by (intro w' O4;(repeat (have yo:=And.left O4;replace O4:=And.right O4));go_simp;try with_reducible rfl))
 (ha:a.put oi.dst v=a':=by (try simp only [Act.put,List.getElem_toArray,List.getElem_cons_zero,List.getElem_cons_succ,List.setIfInBounds_toArray,List.set_cons_zero,List.set_cons_succ]);try rfl) (hQ:∀c a w,Q (.panic c) (a.put oi.dst v) w→Q (.panic c) a w:=by exact fun _ _ _ h=> h):zjy P md ops Q S e n (f+1) a w:=by
 subst ha hm;simp only [tkB,Bool.and_eq_true] at hb;obtain ⟨⟨⟨⟨hn,hs⟩,hf⟩,hr⟩,hc⟩:=hb;have hn:=of_decide_eq_true hn;unfold zjy at *;rw [← zoM hn] at h;exact zf5 (f:=0) (S:=S) hi (Region.noSelect_spec hs) hQ (fun w hw=> hw) _ _ a w (Region.free_spec hi hf) (fun _=> .inr (.inr fun _ h=> h)) (zeq hc) (by simpa using hr) (.inl ⟨hw,hy⟩) hS h
theorem cl {g:FuncId} {args:Array Value} {R:Ending→World→Prop} (hc:Calls P g args w R) {fn:Func} {c:Code} {xs:Array Operand} {ts:Array TypeId}
 (h:∀e' w',R e' w'→∃v,e'= .returned v∧S w'∧(S w'→zjy P md ops Q S e m f (a.put d v) w'))
 (hi : ops[n]? = some oi := by rfl) (ho : oi.op = .call { callee := .value (.func g), args := xs, argTypes := ts } := by rfl) (hm : n + 1 = m := by (try simp only [Nat.reduceAdd]); rfl) (hn : Nat.blt n ops.size = true := by kernel_rfl) (hr : Region.ready md ops (pre ops.size n e) = [n] := by kernel_rfl) (hd : oi.dst = d := by rfl) (hw : Region.wanted oi (yielded ops a.tmps) = true := by kernel_rfl) (hf : P.funcs[g]? = some fn := by rfl) (TB : (fn.name == "runtime.NumGoroutine") = false := by kernel_rfl) (hb : fn.body = some c := by rfl)
 (Sb:xs.map a.eval=args:=by first | (simp [Act.eval];done) | (simp [Act.eval,Act.put];done)):zjy P md ops Q S e n (f+1) a w:=by
 subst hd;exact zmk (by simpa using hn) hm hr hi fun K' hK=> zA hw g hf TB hb xs ts ho args Sb hc fun e w' hR=> by
  obtain ⟨v,e1,h1,h2⟩:=h e w' hR;exact ⟨v,e1,hK.out _ _ h1 (h2 h1)⟩
theorem so {w':World} (h:∀w2,w2=w'→S w2∧(S w2→zjy P md ops Q S e m f a' w2))
 (hi:ops[n]? =some oi:=by rfl) (hm:n+1=m:=by (try simp only [Nat.reduceAdd]);rfl) (hn:Nat.blt n ops.size=true:=by kernel_rfl) (hr:Region.ready md ops (pre ops.size n e)= [n]:=by kernel_rfl) (hw:Region.wanted oi (yielded ops a.tmps)=true:=by kernel_rfl)
 (hy:(execOp a.eval oi).run P w= .ok (.value v) w':=by (go_simp;try with_reducible (first | rfl | exact ⟨rfl,rfl⟩)))
 (ha:a.put oi.dst v=a':=by (try simp only [Act.put,List.getElem_toArray,List.getElem_cons_zero,List.getElem_cons_succ,List.setIfInBounds_toArray,List.set_cons_zero,List.set_cons_succ]);try rfl):zjy P md ops Q S e n (f+1) a w:=by
 subst ha;exact zmk (by simpa using hn) hm hr hi fun K' hK=> by
  rw [if_pos hw];unfold Oper.wp;rw [hy];exact hK.out _ _ (h _ rfl).1 ((h _ rfl).2 (h _ rfl).1)
theorem su {w':World} (h:∀w2,w2=w'→S w2∧(S w2→zjy P md ops Q S e m f a w2))
 (hi:ops[n]? =some oi:=by rfl) (hm:n+1=m:=by (try simp only [Nat.reduceAdd]);rfl) (hn:Nat.blt n ops.size=true:=by kernel_rfl) (hr:Region.ready md ops (pre ops.size n e)= [n]:=by kernel_rfl) (hd:oi.dst=none:=by rfl) (hw:Region.wanted oi (yielded ops a.tmps)=true:=by kernel_rfl)
 (hy:(execOp a.eval oi).run P w= .ok .skip w':=by (go_simp;try with_reducible rfl)):zjy P md ops Q S e n (f+1) a w:=by
 exact zmk (by simpa using hn) hm hr hi fun K' hK=> by
  rw [if_pos hw];unfold Oper.wp;rw [hy];refine hK.out _ _ (h _ rfl).1 ?_;rw [hd];exact (h _ rfl).2 (h _ rfl).1
theorem ca (j:Nat) {g:FuncId} {args:Array Value} {R:Ending→World→Prop} (hc:Calls P g args w R) {fn:Func} {c:Code} {xs:Array Operand} {ts:Array TypeId} {oj:Oper} {w':World}
 (h:∀e' w',R e' w'→∃v,e'= .returned v∧S w'∧(S w'→zjy P md ops Q S e m f (a.put d v) w'))
 (h':∀w2,w2=w'→S w2∧(S w2→zjy P md ops Q S (j::e) n f a' w2))
 (hi : ops[n]? = some oi := by rfl) (ho : oi.op = .call { callee := .value (.func g), args := xs, argTypes := ts } := by rfl) (hm : n + 1 = m := by (try simp only [Nat.reduceAdd]); rfl) (hn : (Nat.blt n ops.size && Nat.blt j ops.size) = true := by kernel_rfl) (hr : Region.ready md ops (pre ops.size n e) = [n, j] := by kernel_rfl) (hd : oi.dst = d := by rfl) (hw : Region.wanted oi (yielded ops a.tmps) = true := by kernel_rfl) (hf : P.funcs[g]? = some fn := by rfl) (TB : (fn.name == "runtime.NumGoroutine") = false := by kernel_rfl) (hb : fn.body = some c := by rfl)
 (Sb:xs.map a.eval=args:=by first | (simp [Act.eval];done) | (simp [Act.eval,Act.put];done))
 (hj:ops[j]? =some oj:=by rfl) (dM:Region.wanted oj (yielded ops a.tmps)=true:=by kernel_rfl)
 (hy:(execOp a.eval oj).run P w= .ok (.value v) w':=by (go_simp;try with_reducible (first | rfl | exact ⟨rfl,rfl⟩)))
 (ha:a.put oj.dst v=a':=by (try simp only [Act.put,List.getElem_toArray,List.getElem_cons_zero,List.getElem_cons_succ,List.setIfInBounds_toArray,List.set_cons_zero,List.set_cons_succ]);try rfl):zjy P md ops Q S e n (f+1) a w:=by
 subst hd ha hm;simp only [Bool.and_eq_true,Nat.blt_eq] at hn;unfold zjy at *;refine zbq hr hi hj (fun K' hK=> zA hw g hf TB hb xs ts ho args Sb hc fun e w' hR=> ?_) fun K' hK=> ?_
 ·obtain ⟨v,e1,h1,h2⟩:=h e w' hR;refine ⟨v,e1,hK.out _ _ h1 ?_⟩;rw [zoM hn.1];exact h2 h1
 ·rw [if_pos dM];unfold Oper.wp;rw [hy];refine hK.out _ _ (h' _ rfl).1 ?_;rw [zoN hn.2];exact (h' _ rfl).2 (h' _ rfl).1
theorem rz (h:Q .normal a w) (hr:Region.ready md ops (pre ops.size n e)= []:=by kernel_rfl):zjy P md ops Q S e n f a w:=zI hr h _
end
end
section
open Go.RowKit
set_option linter.unusedSectionVars false
set_option maxRecDepth 100000
set_option maxHeartbeats 16000000
attribute [local simp] Below.refl zD.refl
theorem zsp {w:World} {ph pt pa:Nat} {l:List En} {F:List Nat} {L:List Uc} {n:Nat} {E:Nat→Prop} (h:zaF w ph pt pa l F L n E) (hl:l.length≤2000) (k a:Nat) (ha:a < 4294967296) (hc:a≠0→0 < zan L a∧zan L a < 1000000):
 Calls Tryz.prog 57 #[zv ph,za2 k, .int .u32 (a:Int)] w fun e w'=> e= .returned (.tuple #[])∧HT ph pt pa n E w (zaR l (k,a)) F (if a=0 then L else zbV L a (zan L a+1)) w':=by
 by_cases h0:a=0
 ·subst h0;exact zlE h hl k
 ·rw [if_neg h0];exact zjv h hl k a (by omega) ha (hc h0).1 (hc h0).2
structure Bv (p:Prop):Prop where
 out:p
theorem vr0 {p:Prop} (h:p:=by
 obtain ⟨w1,Ab⟩:∃w1,w1=w.alloc (.cells #[.int .i64 (b:Int), .int .u32 (at0:Int), .slice da dn dc] 88):=⟨_,rfl⟩;have Aa:Below w.heap.size w w1:=by rw [Ab];exact zr.alloc zl _
 have hX:w1.heap[w.heap.size]? =some (.cells #[.int .i64 (b:Int), .int .u32 (at0:Int), .slice da dn dc] 88 (0,0)):=by rw [Ab];exact heap_alloc_new w _
 have CI:=(zg hX).1;have A1:=fun (W:World) (hW:Below w1.heap.size w1 W)=> rdA ((hW.block _ CI).trans hX);have A2:∀W,Below w1.heap.size w1 W→W.cell? ⟨x,10,none⟩=some (.int .i64 (vol:Int))∧W.cell? ⟨x,14,none⟩=some (.int .u64 (sq:Int)):=fun W hW=> ⟨(zY ((hW.block x (zt hx Aa.size)).trans (Aa.block x hx)) 10).trans y10,(zY ((hW.block x (zt hx Aa.size)).trans (Aa.block x hx)) 14).trans y14⟩;have Rl:=zh (zj2 (v:=vol) hb hs);have cv1:IntKind.u16.wrap (vol:Int)=(vol:Int):=IntWalk.u16_in _ (by omega)
 have cv2:IntKind.u32.wrap (b:Int)=(b:Int):=IntWalk.u32_in _ (by omega)
 have H0:=zh (zn H (zn hl (zn C5 (zn hn (zn hX Aa)))));clear H hl C5 hx IR y10 y14 hs hn Aa hb hv hX;go_enter Tryz.func28,Tryz.ntmps28;go_upto_region 1 with fail;rw [← Ab];clear Ab;refine rg (fun W=> Below w1.heap.size w1 W) (fun hS=> ?_) zr.drew
 repeat refine tk ?_
 refine so ?_;intro wB B2;have hB:Below w1.heap.size w1 wB:=by rw [B2];exact hS.alloc hS.size _
 have hK:wB.heap[w1.heap.size]? =some (.cells #[.int .u16 0, .int .u32 0, .int .u64 0] 132 (0,0)):=by rw [B2];exact heap_alloc_new w1.drew _
 have AN:w1.heap.size≤w1.heap.size:=zl;clear B2;refine ⟨hB,fun hS=> ?_⟩;obtain ⟨z0,z1,z2,zf⟩:=zbb hK;have f0:=zf 0;have f1:=zf 1;have f2:=zf 2;refine su ?_;intro wC eA;have Ad:=zlT hK (.int .u16 (vol:Int)) (.int .u32 (b:Int)) (.int .u64 (sq:Int));have Au:=zaq hB AN (.int .u16 (vol:Int)) (.int .u32 (b:Int)) (.int .u64 (sq:Int));rw [← eA] at Ad Au;refine ⟨Au,fun hS=> ?_⟩;refine rz ?_;have HC:=zh (zn (H0.out.2.2.2.2.2.trans (Au.mono H0.out.2.2.2.2.2.size)) (zn ((Au.block _ CI).trans H0.out.2.2.2.2.1) (zn Ad AN)));have HG:=zh (fun (W:World) (Q':Nat→Prop) (hG:StG wC Q W Q')=> show W.heap[w.heap.size]? =_∧W.heap[w1.heap.size]? =_ from
  have IK:=H0.out.1.qlt;have h1:=zt CI AN
  ⟨(hG.block (zg HC.out.2.1).1 fun e=> Nat.lt_irrefl _ (IK _ e)).trans HC.out.2.1,(hG.block (zg Ad).1 fun e=> by have:=IK _ e;omega).trans Ad⟩)
 clear hS eA Au Ad hK AN hB z0 z1 z2 zf f0 f1 f2 A1 A2 cv1 cv2 CI;have HM:=zh (H0.out.1.n.below HC.out.1);have b2:=cell_of_row wC _ 2 _ _ _ HC.out.2.1;exact tl.out):p:=h
theorem vr1 {p:Prop} (h:p:=by
 have It:=zh (zsp (HM.out.below zr.drew).hist (Nat.le_succ_of_le H0.out.2.1) (za9 vol b sq) at0 HA.out.1 HA.out.2.1);rw [Rl.out] at It;unfold zv at It;have hE:=HM.out.hist.lt;have AH:=HM.out.box;unfold zcH at AH;have A1:=fun (W:World) (hW:zD E wC W)=> rdA ((hW.block p HM.out.plt HM.out.ne.1).trans AH);have A2:=fun (W:World) (hW:zD E wC W)=> rdA ((HG.out W _ ⟨fun _ h=> .inl h,hW.more fun j hj=> (HM.out.dom j).2 (.inr (.inl hj))⟩).1);have A3:=fun (W:World) (hW:zD E wC W)=> rdA ((HG.out W _ ⟨fun _ h=> .inl h,hW.more fun j hj=> (HM.out.dom j).2 (.inr (.inl hj))⟩).2);go_wp2_with fail;refine rg (fun W=> zD E wC W) (fun hS=> ?_) (zD.of_below zr.drew)
 repeat refine tk ?_
 refine cl It.out ?_;rintro _ w5 ⟨rfl,hT⟩;have q:=hT;obtain ⟨E',-,-,hO⟩:=q;refine ⟨_,rfl,hS.trans hO fun _ h=> .inl h,fun hS=> ?_⟩;refine rz ?_;clear A1 A2 A3;have RC:=zh hT;clear hT hO hS AH b2 hE;go_wp2_with fail;go_ret;obtain ⟨E',Q',hN,hG⟩:=(HM.out.below zr.drew).histed RC.out;refine ⟨rfl,0,F,if at0=0 then L else zbV L at0 (zan L at0+1),E',lv,ys,D,Q',fun h=> absurd rfl h, ?_,(StG.below Q HC.out.1.drew).trans hG⟩;rw [show blP st.bl 0 [(⟨b,at0,none⟩:Pu)]=st.bl from funext fun _=> rfl,if_pos rfl];refine hN.m ?_ (fun e he h0=> ?_) H0.out.1.room H0.out.1.many
 ·split
  ·rename_i h0
   subst h0;exact H0.out.1.hinv.hole H0.out.2.2.2.1
  ·rename_i h0
   exact H0.out.1.hinv.share H0.out.2.2.2.1 (Nat.pos_of_ne_zero h0) (HA.out.2.1 h0).1 fun y=> zcs _ _ _ _
 ·rcases zdX he with rfl | he
  ·exact HA.out.2.2 h0
  ·exact H0.out.1.pages e he h0):p:=h
theorem vr2 {p:Prop} (h:p:=by
 obtain ⟨SJ,SL,Vf⟩:=eB.out;subst SJ SL Vf;obtain ⟨S,DA,q1,q2,q3,q4,q5⟩:=HM.out.hist.has;have Aj:=zpb H0.out.1.hinv HD.out.2.2.2.1.choose_spec;have GK:F.Nodup:=q3.fnodup;have Qt:=zh (zfO q3 Aj (by have:=H0.out.1.hinv.flen GK;have:=H0.out.2.2.1;omega) (fun x hx=> by rw [H0.out.1.hinv.dis x hx];omega))
 have JO:=zh (fun (w':World) F' L' D' (hA:zX w' a.pa F' L' nb D') hg ho=> HM.out.histed (l':=st.l) (zaF.alloced q1 q2 q3 q4 q5 hA hg ho));have HF:=zh GK;obtain ⟨p9,-,-⟩:=HM.out.cells;have h1:=HM.out.hist.reads.2;unfold zv at Qt h1;clear q1 q2 q3 q4 q5 Aj GK;go_wp2_with fail;refine Qt.out.mono ?_;rintro e w2 ⟨x0,DA',rfl,Qd,hA,BN,KP⟩;obtain ⟨E2,Q2,I7,Hp⟩:=JO.out w2 _ _ DA' hA BN KP;have Ff:=zh (zn I7 (zn Hp Qd));have ZR:=zh (zjj (w:=w2) 64 6 (Bs.heap HD.out.1 ((Hp.block (zt HD.out.2.2.2.2 HC.out.1.size) HD.out.2.1).trans (HC.out.1.block g HD.out.2.2.2.2))) (by omega) (by omega))
 have b2:=cell_of_row w2 _ 2 _ _ _ (HG.out w2 Q2 Hp).1;clear hA BN KP I7 Hp Qd Qt JO p9 h1;go_wp2_with fail;refine ZR.out.mono ?_;rintro e w3 ⟨v3,rfl,A6,Am⟩;have BG:(zcC (UInt8.ofNat 6) d).length=128:=zmZ _ _ (by have:=HD.out.1.length;omega)
 rw [BG] at A6;obtain ⟨g3,c3,rfl⟩:=zdp A6 (by omega)
 have JC:=Ff.out.1.below Am;have DP:=(H0.out.1.hinv.all x0).2 (.inl Ff.out.2.2);have Zg:=H0.out.1.room;have Z3:=zh (zfV JC.disk (fun j hj=> (JC.dom j).2 (.inr (.inr hj))) JC.qlt (a:=x0) (lg:=a.lg) (by have:=H0.out.2.2.1;omega) (by omega) (by omega) (by have:=HD.out.2.2.1;omega) c3 (zfw A6))
 obtain ⟨-,p10,p11⟩:=JC.cells;have Qp:=zh (zn JC Am);clear JC Am A6 BG Zg ZR b2;go_wp2_with fail;refine Z3.out.mono ?_;rintro e w4 ⟨lv',y,D',rfl,VJ,Pl,BN,KP⟩;obtain ⟨Q4,OT,US⟩:=Qp.out.1.wrote Pl BN KP;have hG:=Ff.out.2.1.trans ((StG.below Q2 Qp.out.2).trans US);have FC:=zh (zjl (OT.below zr.drew).hist (Nat.le_succ_of_le H0.out.2.1) (za9 vol b sq) x0);rw [Rl.out] at FC;unfold zv at FC;have AH:=OT.box;unfold zcH at AH;have hp:=OT.plt;have A1:=fun (W:World) (hW:zD E2 w4 W)=> rdA ((hW.block p hp OT.ne.1).trans AH);have A2:=fun (W:World) (hW:zD E2 w4 W)=> rdA ((HG.out W _ (hG.trans ⟨fun _ h=> .inl h,hW.more fun j hj=> (OT.dom j).2 (.inr (.inl hj))⟩)).2);have Oo:=zh (zn OT (zn hG VJ));clear VJ Pl BN KP US OT hG Z3 p10 p11 DP AH hp;go_wp2_with fail;refine rg (fun W=> zD E2 w4 W) (fun hS=> ?_) (zD.of_below zr.drew)
 repeat refine tk ?_
 refine cl FC.out ?_;rintro _ w5 ⟨rfl,hT⟩;have q:=hT;obtain ⟨E',-,-,hO⟩:=q;refine ⟨_,rfl,hS.trans hO fun _ h=> .inl h,fun hS=> ?_⟩;refine rz ?_;have RC:=zh hT;clear A1 A2 hT hO hS FC;go_wp2_with fail;go_ret;obtain ⟨E',Q',hN,hG⟩:=(Oo.out.1.below zr.drew).histed RC.out;have Mw:=zpc H0.out.1.hinv Ff.out.2.2;refine ⟨rfl,x0,F.erase x0,zbV L x0 (zan L x0+1),E',lv',ys++ [⟨a.lg+x0+1,y⟩],D',Q',fun _=> Mw, ?_,(StG.below Q HC.out.1).trans (Oo.out.2.1.trans ((StG.below Q4 zr.drew).trans hG))⟩;rw [show blP st.bl x0 [(⟨b,at0,some d⟩:Pu)]=fun a=> if a=x0 then d else st.bl a from funext fun _=> rfl,if_neg (fun h=> by cases h)]
 have ye:StN w5 p h a cf {st with l:=zaR st.l (za9 vol b sq,x0),bl:=fun a=> if a=x0 then d else st.bl a} nb (F.erase x0) (zbV L x0 (zan L x0+1)) E' s lv' xs (ys++ [⟨a.lg+x0+1,y⟩]) D' Q':=⟨hN.box,hN.cat,hN.hist,hN.disk,hN.dom,hN.ne⟩
 refine ye.m (H0.out.1.hinv.take HF.out H0.out.2.2.2.1 Ff.out.2.2 fun z=> zcs _ _ _ _) (fun e he h0=> ?_) H0.out.1.room (by have:=H0.out.1.many;simp;omega)
 rw [zlD];rcases zdX he with rfl | he
 ·simp only [if_pos];rw [Oo.out.2.2];exact ⟨rfl,HD.out.1.length⟩
 ·have Aj:=Mw.2.2 e he;rw [if_neg (by omega)]
  simp only [if_neg Aj];exact H0.out.1.pages e he h0):p:=h
section
variable {w:World} {p:Nat} {h:Ch} {a:StA} {cf:Cfg} {st:PS} {nb k:Nat} {F:List Nat} {L:List Uc} {E:Nat→Prop} {s:Nat} {lv:Value} {xs:List Sh} {ys:List Wh} {D Q:Nat→Prop} {x vol b sq at0 dn dc:Nat} {da:Option Addr} (H:StM w p h a cf st nb k F L E s lv xs ys D Q) (hl:st.l.length≤1999) (C5:nb≤4000) (hx:x < w.heap.size) (IR:¬Q x) (y10:w.cell? ⟨x,10,none⟩=some (.int .i64 (vol:Int))) (y14:w.cell? ⟨x,14,none⟩=some (.int .u64 (sq:Int))) (hv:vol < 65536) (hb:b < 4294967296) (hs:sq < 18446744073709551616) (hn:za9 vol b sq ∉ st.l.map (·.1))
include H hl C5 hx IR y10 y14 hv hb hs hn
theorem zrY (ha:at0 < 4294967296) (CQ:at0=0∨∃e ∈ st.l,e.2=at0) (yJ:∀W:World,(binOp .eql 25 (.slice da dn dc) (.slice none 0 0)).run Tryz.prog W= .ok (.bool true) W):
 Calls Tryz.prog 28 #[.pointer (some ⟨p,0,none⟩), .pointer (some ⟨x,0,none⟩), .agg #[.int .i64 (b:Int), .int .u32 (at0:Int), .slice da dn dc]] w (VerE w p h a cf st nb k Q s xs vol sq ⟨b,at0,none⟩):=by
 have DR:at0≠0→0 < zan L at0∧zan L at0 < 1000000:=fun h0=> by
  obtain ⟨e,he,rfl⟩:=CQ.resolve_left h0;have h1:=zgF he;have h2:=zl6 st.l e.2;rw [H.hinv.cnt e.2 (Nat.pos_of_ne_zero h0)]
  omega
 have QZ:at0≠0→zfD (xs.map (·.d)) (zbp ys) (a.lg+at0+1)=zcC 6 (st.bl at0)∧(st.bl at0).length=64:=fun h0=> by
  obtain ⟨e,he,rfl⟩:=CQ.resolve_left h0;exact H.pages e he h0
 have HA:=zh (zn ha (zn DR QZ));clear ha CQ DR QZ;have tl:=Bv.mk @vr1;exact vr0
theorem zin {g:Nat} {d:List UInt8} (hd:Bs w (some ⟨g,0,none⟩) 64 d) (kh:¬Q g) (qx:ys.length≤1000) (GC:∃x,zcn nb st.l x):
 Calls Tryz.prog 28 #[.pointer (some ⟨p,0,none⟩), .pointer (some ⟨x,0,none⟩), .agg #[.int .i64 (b:Int), .int .u32 (at0:Int), .slice (some ⟨g,0,none⟩) 64 64]] w (VerE w p h a cf st nb k Q s xs vol sq ⟨b,at0,some d⟩):=by
 have HD:=zh (zn hd (zn kh (zn qx (zn GC (show g < w.heap.size from by obtain ⟨b',o',c,e,-,-,h1⟩:=Bs.cell hd 0 (by omega);cases e;exact h1)))))
 clear hd kh qx GC
 suffices key:∀(da:Option Addr) (dn dc:Nat),da=some ⟨g,0,none⟩→dn=64→dc=64→Calls Tryz.prog 28 #[.pointer (some ⟨p,0,none⟩), .pointer (some ⟨x,0,none⟩), .agg #[.int .i64 (b:Int), .int .u32 (at0:Int), .slice da dn dc]] w (VerE w p h a cf st nb k Q s xs vol sq ⟨b,at0,some d⟩) from key _ _ _ rfl rfl rfl
 intro da dn dc SJ SL Vf;have yJ:∀W:World,(binOp .eql 25 (.slice da dn dc) (.slice none 0 0)).run Tryz.prog W= .ok (.bool false) W:=fun W=> by rw [SJ];exact Lib.run_eql_slice_nil W _ _ (some ⟨g,0,none⟩) dn dc 0 0 Tryz.underlying25
 have eB:=zh (zn SJ (zn SL Vf));clear SJ SL Vf;have tl:=Bv.mk @vr2;exact vr0
end
end
end Go.Proofs.YtfldlfladcfggaaGreat
