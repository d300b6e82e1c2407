/- Lemmas of the walks, merged and pressed by press.py. Conditions: those of each theorem. -/
import Derived.Test.YtaoceecfjlkmdaaGreatM17
import Derived.Deep.CutRange
import Derived.Test.YtaoceecfjlkmdaaGreatProg
import Derived.Test.YtaoceecfjlkmdaaGreatM1
set_option maxRecDepth 100000
set_option maxHeartbeats 64000000
set_option linter.all false
namespace Go.Proofs.YtaoceecfjlkmdaaGreat
section
open Go.RowKit
def zb0 (n:Nat):List Value:= [.int .u64 (n:Int)]
theorem zah (e:Nat):(zb0 e).length=1:=rfl
theorem zdG (e:Nat):∀u ∈ zb0 e,u.oneCell'=true:=fun u hu=> by
 simp [zb0] at hu;subst hu;rfl
def zaC (ps:List Nat) (fl from' nxt:Nat):Bool:=decide (nxt=0) || decide (fl < nxt) || ps.any fun p=> decide (from'≤p) && decide (p < nxt)
theorem zli {w:World} {a:Option Addr} {n c:Nat} {ps:List Nat} (hp:zM zb0 1 w a n ps) (hn:n≤1000000) (fl from' nxt:Nat):
 Calls Tryz.prog 119 #[.slice a n c, .int .u64 (fl:Int), .int .u64 (from':Int), .int .u64 (nxt:Int)] w fun e w'=> e= .returned (.bool (zaC ps fl from' nxt))∧w'=w:=by
 have AQ:=hp.1
 by_cases h0:nxt=0
 ·have z0:((nxt:Int)==0)=true:=by rw [h0];rfl
  have HF:Hid (zaC ps fl from' nxt=true):=zh (by unfold zaC;simp [h0])
  clear h0 hp AQ;go_enter Tryz.func119,Tryz.ntmps119;go_wp2_with fail;go_ret;exact ⟨by rw [HF.out];rfl,rfl⟩
 ·have z0 :((nxt:Int)==0)=false:=by rw [beq_eq_false_iff_ne];omega
  by_cases h1:fl < nxt
  ·have z1:(fl:Int) < (nxt:Int):=by omega
   have HF:Hid (zaC ps fl from' nxt=true):=zh (by unfold zaC;simp [h1])
   clear h0 h1 hp AQ;go_enter Tryz.func119,Tryz.ntmps119;go_wp2_with fail;go_ret;exact ⟨by rw [HF.out];rfl,rfl⟩
  ·have z1 :¬((fl:Int) < (nxt:Int)):=by omega
   have HN:Hid (zaC ps fl from' nxt=ps.any fun p=> decide (from'≤p) && decide (p < nxt)):=zh (by unfold zaC;simp [h0,h1])
   have HP:=zh hp;have HL:=zh AQ;clear h0 h1 hp AQ;go_enter Tryz.func119,Tryz.ntmps119;go_wp2_with fail
   go_loop [20] (fun u=> ∃i:Nat,i≤n∧u= .int .i64 i∧(ps.take i).any (fun p=> decide (from'≤p) && decide (p < nxt))=false) (fun u=> n - (intOf u).toNat)
   case atStart=> exact ⟨0,by omega,rfl,rfl⟩
   case round=>
        obtain ⟨i,hi,rfl,hR⟩:=hrel;have HR:=zh hR;clear hR
        by_cases hlt:i < n
        ·have Bb:(i:Int) < (n:Int):=by omega
         obtain ⟨x,hx⟩:∃x,ps[i]? =some x:=⟨_,ze (by have:=HL.out;omega)⟩
         obtain ⟨b,o,rfl,hc⟩:=HP.out.2 i x hx;have c0:=hc 0 _ rfl;simp only [Nat.mul_one,Nat.add_zero] at c0;have HX:=zh hx;have FI:(decide (from'≤x) && decide (x < nxt))=false→(ps.take (i+1)).any (fun p=> decide (from'≤p) && decide (p < nxt))=false:=fun hf=> by
          rw [List.take_add_one,HX.out,List.any_append,HR.out];simp only [Option.toList_some,List.any_cons,List.any_nil,Bool.or_false,Bool.false_or];exact hf
         have HG:=zh FI;clear hx hc FI
         by_cases g1:from'≤x
         ·have y1:(from':Int)≤(x:Int):=by omega
          by_cases g2:x < nxt
          ·have y2:(x:Int) < (nxt:Int):=by omega
           have HF:Hid (zaC ps fl from' nxt=true):=zh (by rw [HN.out,List.any_eq_true];exact ⟨x,zm HX.out,by simp [g1,g2]⟩)
           clear g1 g2;go_wp2_with fail;go_ret;exact ⟨by rw [HF.out];rfl,rfl⟩
          ·have y2:¬((x:Int) < (nxt:Int)):=by omega
           have HF:=zh (HG.out (by simp [g2]))
           clear g1 g2;go_wp2_with fail
           go_round
           case rel=> exact ⟨i+1,by omega,by go_num,HF.out⟩
           case measure=> simp [intOf];omega
         ·have y1:¬((from':Int)≤(x:Int)):=by omega
          have HF:=zh (HG.out (by simp [g1]))
          clear g1;go_wp2_with fail
          go_round
          case rel=> exact ⟨i+1,by omega,by go_num,HF.out⟩
          case measure=> simp [intOf];omega
        ·obtain rfl:n=i:=by omega
         have HF:Hid (zaC ps fl from' nxt=false):=zh (by
          have h1:=HR.out;rw [zk (by have:=HL.out;omega)] at h1
          rw [HN.out];exact h1)
         go_wp2_with fail;go_ret;exact ⟨by rw [HF.out];rfl,rfl⟩
theorem OwnA.pushAt {w:World} {B:Nat} {v:Value} {l:List Nat} (h:zK zfg 1 73 w B v l) (x:Nat) (hl:l.length≤100000000) (hB:B≤w.heap.size):
 ∃v' w',(Builtin.append_ #[154,154] 154 #[v, .slice (some ⟨w.heap.size,0,none⟩) 1 1]).run Tryz.prog (w.alloc (.cells #[.int .u32 (x:Int)] 73))= .ok v' w'∧zK zfg 1 73 w' B v' (l++ [x])∧w.grownBy w' v.ownBlock:=by
 obtain ⟨i0,hi,AG,Ai,Ax⟩:=zW zmB;obtain ⟨v',w',hr,ho,hg,-,AF⟩:=run_append_own_at (P:=Tryz.prog) (w.alloc (.cells #[.int .u32 (x:Int)] 73)) B 154 154 73 i0 _ 1 4 Tryz.underlying154 hi AG Ai Ax rfl (by decide) v l.length _ (h.alloc _) ⟨w.heap.size,0,none⟩ 1 1 (zB zfg [x]) rfl (zM.cells zeQ (by decide) (zM.new (enc:=zfg) w x 73)) (fun u hu=> by
  obtain ⟨y,-,hy⟩:=List.mem_flatMap.1 hu;exact zjP y u hy) (by unfold maxLen;omega) (by omega) (by rw [World.alloc_size];omega)
 refine ⟨v',w',hr, ?_,zca hg⟩;unfold zK;rw [zaj,List.length_append];exact ho
theorem zos {w:World} {ph pt pa:Nat} {l:List En} {F:List Nat} {L:List Uc} {n:Nat} {E:Nat→Prop} (h:zaF w ph pt pa l F L n E) (hl:l.length≤2000) (v s m:Nat) (hv:v < 65536) (hs:s < 18446744073709551616) (hm:m≤100000):
 Calls Tryz.prog 106 #[zv ph, .int .i64 (v:Int), .int .u64 (s:Int), .int .i64 (m:Int)] w fun e w'=> ∃r,e= .returned r∧zK zfg 1 73 w' w.heap.size r ((List.range m).map fun b=> atL l v b s)∧Below w.heap.size w w':=by
 have HH:=zh h;unfold zv;clear h;go_enter Tryz.func106,Tryz.ntmps106;go_wp2_with fail
 go_loopw [9,12] (fun u9 u12 wr=> ∃i:Nat,i≤m∧u12= .int .i64 i∧zK zfg 1 73 wr w.heap.size u9 ((List.range i).map fun b=> atL l v b s)∧Below w.heap.size w wr) (fun _ u12 _=> m - (intOf u12).toNat)
 case atStart=> exact ⟨0,by omega,rfl,World.ownsRow_nil _ _ _ _,Below.refl _ _⟩
 case round=>
  obtain ⟨i,hi,rfl,ho,hb⟩:=hrel
  by_cases hlt:i < m
  ·have Bb:(i:Int) < (m:Int):=by omega
   have HA:=zh (zf6 (HH.out.below hb) hl v i s hv (by omega) hs)
   have HO:=zh ho;have HB:=zh hb;unfold zv at HA;clear ho hb;go_wp2_with fail;refine HA.out.mono ?_;rintro e w5 ⟨rfl,Ag⟩;have AV:=HO.out.below (C:=wr.heap.size) Ag zl;have CL:=HB.out.trans (Ag.mono HB.out.size);obtain ⟨v',w6,hr,Bv,hg⟩:=OwnA.pushAt AV (atL l v i s) (by simp;omega) CL.size
   have AT:=Below.own CL AV hg zl CL.size;have HF:=zh (zn Bv AT);clear AV CL Bv AT hg Ag;generalize AF:atL l v i s=x at *;have Cj:=zh AF;clear AF
   go_wp2_with (at_builtin;refine za rfl _ _ _ rfl hr ?_)
   go_roundw
   case rel=>
        refine ⟨i+1,by omega,by go_num, ?_,HF.out.2⟩
        rw [List.range_succ,List.map_append]
        show zK zfg 1 73 w6 w.heap.size v' (_++ [atL l v i s])
        rw [Cj.out];exact HF.out.1
   case measure=> simp [intOf];omega
  ·obtain rfl:m=i:=by omega
   have HF:=zh (zn ho hb);clear ho hb;go_wp2_with fail;go_ret;exact ⟨_,rfl,HF.out.1,HF.out.2⟩
end
section
open Go.RowKit
def zeg (all:List En) (i:Nat):Nat:=
 match all[i]?,all[i+1]? with
 | some e,some f=> if zj e.1=zj f.1∧zo e.1=zo f.1 then zp f.1 else 0
 | _,_=> 0
def zb4 (all:List En) (ps:List Nat) (fl:Nat) (i:Nat):List En:=
 (List.range i).flatMap fun j=> match all[j]? with
    | some e=> if zaC ps fl (zp e.1) (zeg all j) then [] else [e]
    | none=> []
def zcQ (l:List En) (v:Nat) (ps:List Nat) (fl:Nat):List En:=zb4 (zdE l v) ps fl (zdE l v).length
theorem zdz (all:List En) (ps:List Nat) (fl i:Nat) {e:En} (he:all[i]? =some e):zb4 all ps fl (i+1)=zb4 all ps fl i++if zaC ps fl (zp e.1) (zeg all i) then [] else [e]:=by
 unfold zb4;rw [List.range_succ,List.flatMap_append];simp only [List.flatMap_cons,List.flatMap_nil,List.append_nil,he]
theorem zdj (all:List En) (ps:List Nat) (fl:Nat):∀i,(zb4 all ps fl i).Sublist (all.take i)
 | 0=> by simp [zb4]
 | i + 1=> by
   cases he:all[i]? with
   | none=>
     have:zb4 all ps fl (i+1)=zb4 all ps fl i:=by
       unfold zb4;rw [List.range_succ,List.flatMap_append];simp only [List.flatMap_cons,List.flatMap_nil,List.append_nil,he]
     rw [this,List.take_add_one,he]
     simpa using zdj all ps fl i
   | some e=>
     rw [zdz all ps fl i he,List.take_add_one,he];refine (zdj all ps fl i).append ?_
     split <;> simp
theorem zfm (l:List En) (v:Nat) (ps:List Nat) (fl:Nat):(zcQ l v ps fl).Sublist l:=by
 refine ((zdj _ ps fl _).trans ?_).trans (List.filter_sublist (p:=fun x=> decide (zj x.1=v)) (l:=l));exact List.take_sublist _ _
theorem zn3 {w:World} {ph pt pa:Nat} {l:List En} {F:List Nat} {L:List Uc} {n:Nat} {E:Nat→Prop} (h:zaF w ph pt pa l F L n E) (hl:l.length≤2000) (v:Nat) (hv:v < 65536) {a:Option Addr} {m c:Nat} {ps:List Nat} (hp:zM zb0 1 w a m ps) (hm:m≤1000000) (fl:Nat):
 Calls Tryz.prog 72 #[zv ph, .int .i64 (v:Int), .slice a m c, .int .u64 (fl:Int)] w fun e w'=> ∃r,e= .returned r∧zK zaW 4 113 w' w.heap.size r (zcQ l v ps fl)∧Below w.heap.size w w':=by
 obtain ⟨r0,-⟩:=h.reads;obtain ⟨S,D,h1,h2,h3,h4,h5⟩:=h.has;have HV:=zh (zgx h2 hl v hv);have s1:IntKind.u16.wrap (v:Int)=(v:Int):=by simp [IntKind.wrap,IntKind.signed,IntKind.bits];omega
 have Ac:(zdE l v).length≤2000:=zs (List.length_filter_le _ _) hl;have HP:=zh hp;unfold zcQ;unfold zv at *;clear h h1 h2 h3 h4 h5 hp;generalize zdE l v=es at *;go_enter Tryz.func72,Tryz.ntmps72;go_wp2_with fail;refine HV.out.mono ?_;clear HV r0;rintro e w1 ⟨r,rfl,hr,Aa⟩;have HB:=zh Aa;have HR:=zh hr;obtain ⟨a1,cap,DL,Ah,Ep,-⟩:=hr.row zN;have HA:=zh DL;have HC:=zh Ep;clear Aa hr Ah Ep;rw [DL];clear DL;go_wp2_with fail
 go_loopw [9,23] (fun u9 u23 wr=> ∃i:Nat,i≤es.length∧u23= .int .i64 i∧zK zaW 4 113 wr w1.heap.size u9 (zb4 es ps fl i)∧Below w1.heap.size w1 wr) (fun _ u23 _=> es.length - (intOf u23).toNat)
 case atStart=> exact ⟨0,by omega,rfl,World.ownsRow_nil _ _ _ _,Below.refl _ _⟩
 case round=>
  obtain ⟨i,hi,rfl,ho,hb⟩:=hrel;have HO:=zh ho;have Uy:=zh hb;clear ho hb
  by_cases hlt:i < es.length
  ·have Bb:(i:Int) < (es.length:Int):=by omega
   obtain ⟨x,hx⟩:∃x,es[i]? =some x:=⟨_,ze hlt⟩;obtain ⟨a',cap',DM,Bw,SC,TF⟩:=(HR.out.heap (w':=wr) fun g hg=> Uy.out.block g (HR.out.lt g hg).2).row zN;have Hk:=zh Bw;obtain ⟨g,o,Gy,hcells⟩:=Bw.2 i x hx;have Iy:=HA.out.symm.trans DM;simp only [Value.slice.injEq,true_and] at Iy;obtain ⟨rfl,rfl⟩:=Iy;subst Gy;have c0:=hcells 0 _ rfl;have c1:=hcells 1 _ rfl;have c2:=hcells 2 _ rfl;have c3:=hcells 3 _ rfl;simp only [Nat.add_zero] at c0;obtain ⟨w2,GV⟩:∃w2,w2=wr.alloc (.cells #[.int .u16 (zj x.1:Int), .int .u32 (zo x.1:Int), .int .u64 (zp x.1:Int), .int .u32 (x.2:Int)] 113):=⟨_,rfl⟩;have hX:w2.heap[wr.heap.size]? =some (.cells #[.int .u16 (zj x.1:Int), .int .u32 (zo x.1:Int), .int .u64 (zp x.1:Int), .int .u32 (x.2:Int)] 113 (0,0)):=by rw [GV];exact heap_alloc_new wr _
   have Ae:Below wr.heap.size wr w2:=by rw [GV];exact zr.alloc zl _
   have Ax:w2.heap.size=wr.heap.size+1:=by rw [GV];simp
   have HX:=zh hX;have Ap:=zh Ae;have Lo:=zh Ax;have Wf:=zh hx;have sI:IntKind.i64.wrap ((i:Int)+1)=((i+1:Nat):Int):=by rw [zw _ (by omega)];omega
   clear hX Ae Ax Bw hcells DM SC TF hx;obtain ⟨bb,E7⟩:∃bb:Bool,bb=decide (i+1 < es.length∧∀y,es[i+1]? =some y→zj x.1=zj y.1∧zo x.1=zo y.1):=⟨_,rfl⟩;have JP:=zh E7;clear E7;go_upto_region 7 with fail;rw [← GV];clear GV
   go_cut [43] from 28 to 63 (fun u43 wx=> u43= .bool bb∧Below w2.heap.size w2 wx)
   case first=>
        by_cases AY:i+1 < es.length
        ·obtain ⟨y,hy⟩:∃y,es[i+1]? =some y:=⟨_,ze AY⟩;obtain ⟨g',o',O5,hcells'⟩:=Hk.out.2 (i+1) y hy
         cases O5
         have d0:=(Ap.out.cell (zb _ _ (hcells' 0 _ rfl))).trans (hcells' 0 _ rfl);have d1:=(Ap.out.cell (zb _ _ (hcells' 1 _ rfl))).trans (hcells' 1 _ rfl);have d2:=(Ap.out.cell (zb _ _ (hcells' 2 _ rfl))).trans (hcells' 2 _ rfl);simp only [Nat.add_zero] at d0;obtain ⟨y0,y1,y2⟩:w2.cell? ⟨wr.heap.size,0,none⟩=some (.int .u16 (zj x.1:Int))∧w2.cell? ⟨wr.heap.size,1,none⟩=some (.int .u32 (zo x.1:Int))∧w2.cell? ⟨wr.heap.size,2,none⟩=some (.int .u64 (zp x.1:Int)):=⟨cell_of_row w2 _ 0 _ _ _ HX.out,cell_of_row w2 _ 1 _ _ _ HX.out,cell_of_row w2 _ 2 _ _ _ HX.out⟩;have LQ:=zh (zkf x.1 y.1 w2.drew);have K8:(zj x.1==zj y.1 && zo x.1==zo y.1)=bb:=by
          rw [JP.out,Bool.eq_iff_iff];simp only [Bool.and_eq_true,beq_iff_eq,decide_eq_true_eq,hy,Option.some.injEq]
          constructor
          ·rintro h;exact ⟨AY,fun z hz=> by rw [← hz];exact h⟩
          ·rintro ⟨-,h⟩;exact h y rfl
         rw [K8] at LQ;have Xp:∀W,Below w2.drew.heap.size w2.drew W→W.cell? ⟨wr.heap.size,0,none⟩=some (.int .u16 (zj x.1:Int))∧W.cell? ⟨wr.heap.size,1,none⟩=some (.int .u32 (zo x.1:Int))∧W.cell? ⟨wr.heap.size,2,none⟩=some (.int .u64 (zp x.1:Int))∧W.cell? ⟨g,o+(i+1) * 4,none⟩=some (.int .u16 (zj y.1:Int))∧W.cell? ⟨g,o+(i+1) * 4+1,none⟩=some (.int .u32 (zo y.1:Int))∧W.cell? ⟨g,o+(i+1) * 4+2,none⟩=some (.int .u64 (zp y.1:Int)):=fun W h5=>
          ⟨(h5.cell (zb _ _ y0)).trans y0,(h5.cell (zb _ _ y1)).trans y1,(h5.cell (zb _ _ y2)).trans y2,(h5.cell (zb _ _ d0)).trans d0,(h5.cell (zb _ _ d1)).trans d1,(h5.cell (zb _ _ d2)).trans d2⟩
         have RA:=zh Xp;have hS:=Xp w2.drew zr;have g1:(((i+1:Nat):Int) < (es.length:Int)):=by omega
         have g0:(0:Int)≤((i+1:Nat):Int):=by omega
         unfold za2 at LQ;clear K8 Xp y0 y1 y2 d0 d1 d2 hcells' hy AY c0 c1 c2 c3 HR Hk;generalize i+1=i1 at *;generalize es.length=m' at *
         go_region_held (fun W=> W.cell? ⟨wr.heap.size,0,none⟩=some (.int .u16 (zj x.1:Int))∧W.cell? ⟨wr.heap.size,1,none⟩=some (.int .u32 (zo x.1:Int))∧W.cell? ⟨wr.heap.size,2,none⟩=some (.int .u64 (zp x.1:Int))∧W.cell? ⟨g,o+i1 * 4,none⟩=some (.int .u16 (zj y.1:Int))∧W.cell? ⟨g,o+i1 * 4+1,none⟩=some (.int .u32 (zo y.1:Int))∧W.cell? ⟨g,o+i1 * 4+2,none⟩=some (.int .u64 (zp y.1:Int))) (first | with_reducible exact Ca | with_reducible exact hS)
          (first | (go_at_call 45;refine LQ.out.mono ?_;rintro e w5 ⟨rfl,Ag⟩;have Ca:=RA.out w5 Ag))
         all_goals
          go_wp2_with fail
          go_meet
          case rel=> exact ⟨rfl,⟨Ag.os,Ag.tape,Ag.output,Ag.size,Ag.block⟩⟩
        ·have g1:¬(((i+1:Nat):Int) < (es.length:Int)):=by omega
         have K8:bb=false:=by
          rw [JP.out];exact decide_eq_false fun h=> AY h.1
         have WL:=zh K8;clear K8 AY c0 c1 c2 c3 HR Hk;generalize i+1=i1 at *;generalize es.length=m' at *
         go_quiet (fail)
         go_wp2_with fail
         go_meet
         case rel=> exact ⟨by rw [WL.out],⟨rfl,rfl,rfl,zl,fun _ _=> rfl⟩⟩
   case rest=>
        obtain ⟨rfl,AH⟩:=hcut;have Ux:=zh (Ap.out.trans (AH.mono Ap.out.size));have VW:=zh AH;clear AH c0 c1 c2 c3
        go_upto_if 43 with fail
        go_cut [13] from 44 to 63 (fun u13 wx=> u13= .int .u64 (zeg es i:Nat)∧wx=wc)
        case first=>
         cases bb with
         | true=>
           obtain ⟨AY,N0⟩:=of_decide_eq_true JP.out.symm;obtain ⟨y,hy⟩:∃y,es[i+1]? =some y:=⟨_,ze AY⟩;obtain ⟨g',o',O5,hcells'⟩:=Hk.out.2 (i+1) y hy
           cases O5
           have d2:=(Ux.out.cell (zb _ _ (hcells' 2 _ rfl))).trans (hcells' 2 _ rfl);have TK:zeg es i=zp y.1:=by
            unfold zeg;rw [Wf.out,hy];exact if_pos (N0 y hy)
           have Wt:=zh TK;have g1:(((i+1:Nat):Int) < (es.length:Int)):=by omega
           have g0:(0:Int)≤((i+1:Nat):Int):=by omega
           clear TK hcells' hy AY N0 HR Hk JP;generalize i+1=i1 at *;generalize es.length=m' at *;go_wp2_with fail
           go_meet
           case rel=> exact ⟨by rw [Wt.out],rfl⟩
         | false=>
           have TK:zeg es i=0:=by
            unfold zeg;rw [Wf.out]
            cases hy:es[i+1]? with
            | none=> rfl
            | some y=>
              have:=of_decide_eq_false JP.out.symm;refine if_neg fun h=> this ⟨(zi hy).1,fun z hz=> ?_⟩;rw [hy] at hz
              cases hz
              exact h
           have Wt:=zh TK;clear TK;go_wp2_with fail
           go_meet
           case rel=> exact ⟨by rw [Wt.out];rfl,rfl⟩
        case rest=>
         obtain ⟨rfl,rfl⟩:=hcut;have Us:=(VW.out.block wr.heap.size (by have:=Lo.out;omega)).trans HX.out
         obtain ⟨y0,y1,y2,y3⟩:wc.cell? ⟨wr.heap.size,0,none⟩=some (.int .u16 (zj x.1:Int))∧wc.cell? ⟨wr.heap.size,1,none⟩=some (.int .u32 (zo x.1:Int))∧wc.cell? ⟨wr.heap.size,2,none⟩=some (.int .u64 (zp x.1:Int))∧wc.cell? ⟨wr.heap.size,3,none⟩=some (.int .u32 (x.2:Int)):=⟨cell_of_row wc _ 0 _ _ _ Us,cell_of_row wc _ 1 _ _ _ Us,cell_of_row wc _ 2 _ _ _ Us,cell_of_row wc _ 3 _ _ _ Us⟩;have hb1c:Below w1.heap.size w1 wc:=Uy.out.trans (Ux.out.mono Uy.out.size);have KR:zM zb0 1 wc a m ps:=(HP.out.below HB.out zl).below hb1c zl;have UD:=zh (zli KR (c:=c) hm fl (zp x.1) (zeg es i));have K6:=zdz es ps fl i Wf.out;have TN:=HO.out.below (C:=wr.heap.size) Ux.out zl;have aj:(zb4 es ps fl i).length≤2000:=by
          have:=(zdj es ps fl i).length_le;rw [List.length_take] at this
          omega
         obtain ⟨v',w6,NU,Bv,AX⟩:=TN.push x (by omega) hb1c.size
         have AT:=Below.own hb1c TN AX zl hb1c.size;have T0:(Builtin.append_ #[137,137] 137 #[u9, .slice (some ⟨wc.heap.size,0,none⟩) 1 1]).run Tryz.prog (wc.alloc (.cells #[.int .u16 (zj x.1:Int), .int .u32 (zo x.1:Int), .int .u64 (zp x.1:Int), .int .u32 (x.2:Int)] 113))= .ok v' w6:=NU;clear NU Us KR aj
         cases GK:zaC ps fl (zp x.1) (zeg es i) with
         | true=>
           rw [GK] at UD K6;have J6:=zh (zn K6 (zn TN hb1c));clear K6 TN hb1c Bv AX AT T0 GK;go_wp2_with fail;refine UD.out.mono ?_;rintro e w5 ⟨rfl,rfl⟩;go_wp2_with fail
           go_roundw
           case rel=>
            refine ⟨i+1,by omega,by go_num, ?_,J6.out.2.2⟩
            rw [J6.out.1]
            simpa using J6.out.2.1
           case measure=> simp [intOf];omega
         | false=>
           rw [GK] at UD K6;have J6:=zh (zn K6 (zn Bv AT));clear K6 TN hb1c Bv AX AT GK;go_wp2_with fail;refine UD.out.mono ?_;rintro e w5 ⟨rfl,rfl⟩
           go_wp2_with (at_builtin;refine za rfl _ _ _ rfl T0 ?_)
           go_roundw
           case rel=>
            refine ⟨i+1,by omega,by go_num, ?_,J6.out.2.2⟩
            rw [J6.out.1];exact J6.out.2.1
           case measure=> simp [intOf];omega
  ·obtain rfl:i=es.length:=by omega
   have HF:=zh (zn (zK.base HO.out HB.out.size) (HB.out.trans (Uy.out.mono HB.out.size)));go_wp2_with fail;go_ret;exact ⟨_,rfl,HF.out.1,HF.out.2⟩
theorem zm3 {w:World} {ph pt pa:Nat} {l:List En} {F:List Nat} {L:List Uc} {n:Nat} {E:Nat→Prop} (h:zaF w ph pt pa l F L n E) (hI:zcR n l F L) (hf:Fit l) (hl:l.length≤2000) (hn:n≤4096) (v:Nat) (hv:v < 65536) {a:Option Addr} {m c:Nat} {ps:List Nat} (hp:zM zb0 1 w a m ps) (hm:m≤1000000) (fl:Nat):
 Calls Tryz.prog 33 #[zv ph, .int .i64 (v:Int), .slice a m c, .int .u64 (fl:Int)] w fun e w'=> e= .returned (.int .i64 ((zcQ l v ps fl).length:Int))∧HO ph pt pa n E w (zao l (zcQ l v ps fl)) w':=by
 have AC:=h.rise;have hE:=h.lt;have HV:=zh (zn3 h hl v hv (c:=c) hp hm fl);have HH:=zh (zn h (zn hI (zn hE AC)));have Ac:(zcQ l v ps fl).length≤2000:=zs (zfm l v ps fl).length_le hl;have AP:∀e ∈ zcQ l v ps fl,e ∈ l:=fun e he=> (zfm l v ps fl).subset he;have GK:(zcQ l v ps fl).Nodup:=(zek AC).sublist (zfm l v ps fl);have HN:=zh (zn AP GK);unfold zv at *;clear h hI hE AC AP GK hp;generalize SR:zcQ l v ps fl=es at *;have qH:=zh SR;clear SR;go_enter Tryz.func33,Tryz.ntmps33;go_wp2_with fail;refine HV.out.mono ?_;clear HV;rintro e w1 ⟨r,rfl,hr,Aa⟩;have HB:=zh Aa;have HR:=zh hr;obtain ⟨a1,cap,DL,Ah,Ep,-⟩:=hr.row zN;have HA:=zh DL;clear Aa hr Ah Ep;rw [DL];clear DL;go_wp2_with fail;obtain ⟨hh,hI,hE,AC⟩:=HH.out
 go_loopw [19] (fun u19 wr=> ∃i:Nat,i≤es.length∧u19= .int .i64 i∧HO ph pt pa n E w1 (zao l (es.take i)) wr) (fun u19 _=> es.length - (intOf u19).toNat)
 case atStart=> exact ⟨0,by omega,rfl,F,L,HT.refl (hh.below HB.out),hI⟩
 case round=>
  obtain ⟨i,hi,rfl,hO⟩:=hrel
  by_cases hlt:i < es.length
  ·have Bb:(i:Int) < (es.length:Int):=by omega
   obtain ⟨x,hx⟩:∃x,es[i]? =some x:=⟨_,ze hlt⟩;have Kd:=hO;obtain ⟨F',L',⟨E',k1,k2,k3⟩,Nh⟩:=Kd;obtain ⟨a',cap',DM,Bw,-⟩:=(HR.out.far k3 hE).row zN;obtain ⟨g,o,Gy,hcells⟩:=Bw.2 i x hx;have Iy:=HA.out.symm.trans DM;simp only [Value.slice.injEq,true_and] at Iy;obtain ⟨rfl,rfl⟩:=Iy;subst Gy;have c0:=hcells 0 _ rfl;have c1:=hcells 1 _ rfl;have c2:=hcells 2 _ rfl;have c3:=hcells 3 _ rfl;simp only [Nat.add_zero] at c0;have HC:=zh (zjN hO AC HN.out.1 HN.out.2 hf hl hn hx);unfold zv zd1 at HC;clear hO k1 k2 k3 Nh Bw hcells DM hx;generalize es.length=m at *;go_wp2_with fail;refine HC.out.mono ?_;rintro e w5 ⟨rfl,hO⟩;have LN:=zh hO;clear hO;go_wp2_with fail
   go_roundw
   case rel=> exact ⟨i+1,by omega,by go_num,LN.out⟩
   case measure=> simp [intOf];omega
  ·obtain rfl:i=es.length:=by omega
   rw [zk zl] at hO;have LN:=zh (hO.pre HB.out hE);clear hO;go_wp2_with fail;go_ret;exact ⟨rfl,LN.out⟩
end
section
open Go.RowKit
theorem zmz {w:World} {a:Option Addr} {n c:Nat} {l:List Nat} (h:zM zb0 1 w a n l) (hn:n≤1000000) (x:Nat):
 Calls Tryz.prog 124 #[.slice a n c, .int .u64 (x:Int)] w fun e w'=> (∃z:Int,e= .returned (.int .i64 z)∧(0≤z↔x ∈ l))∧w'=w:=by
 have hl:=h.1;have H:=zh h;have HL:=zh hl;clear h hl;go_enter Tryz.func124,Tryz.ntmps124;go_wp2_with fail
 go_loop [8] (fun u=> ∃i:Nat,i≤n∧u= .int .i64 i∧x ∉ l.take i) (fun u=> n - (intOf u).toNat)
 case atStart=> exact ⟨0,by omega,rfl,by simp⟩
 case round=>
  obtain ⟨i,hi,rfl,hR⟩:=hrel;have HR:=zh hR;clear hR
  by_cases hlt:i < n
  ·have Bb:(i:Int) < (n:Int):=by omega
   obtain ⟨y,hy⟩:∃y,l[i]? =some y:=⟨_,ze (by have:=HL.out;omega)⟩
   obtain ⟨b,o,rfl,hc⟩:=H.out.2 i y hy;have c0:=hc 0 _ rfl;simp only [Nat.mul_one,Nat.add_zero] at c0;have HY:=zh hy;clear hy hc
   by_cases B8:x=y
   ·have z:((x:Int)==(y:Int))=true:=by rw [B8];simp
    have HF:=zh (show ((0:Int)≤(i:Int))↔x ∈ l from ⟨fun _=> zm (B8 ▸ HY.out),fun _=> by omega⟩)
    clear B8;go_wp2_with fail;go_ret;exact ⟨⟨_,rfl,HF.out⟩,rfl⟩
   ·have z:((x:Int)==(y:Int))=false:=by rw [beq_eq_false_iff_ne];omega
    have HF:=zh (show x ∉ l.take (i+1) by
     rw [List.take_add_one,HY.out];simp only [Option.toList_some,List.mem_append,List.mem_singleton,not_or];exact ⟨HR.out,B8⟩)
    clear B8;go_wp2_with fail
    go_round
    case rel=> exact ⟨i+1,by omega,by go_num,HF.out⟩
    case measure=> simp [intOf];omega
  ·obtain rfl:n=i:=by omega
   have HF:=zh (show ((0:Int)≤(-1:Int))↔x ∈ l by
        have:=HR.out;rw [zk (by have:=HL.out;omega)] at this
        exact ⟨fun h=> by omega,fun h=> absurd h this⟩)
   go_wp2_with fail;go_ret;exact ⟨⟨_,rfl,HF.out⟩,rfl⟩
theorem zes {w:World} {a:Option Addr} {n c:Nat} {l:List Nat} (h:zM zb0 1 w a n l) (hn:n≤1000000) (x:Nat):
 Calls Tryz.prog 78 #[.slice a n c, .int .u64 (x:Int)] w fun e w'=> e= .returned (.bool (decide (x ∈ l)))∧w'=w:=by
 have H:=zh (zmz (c:=c) h hn x);clear h;go_enter Tryz.func78,Tryz.ntmps78;go_wp2_with fail;refine H.out.mono ?_;rintro e w' ⟨⟨z,rfl,hz⟩,rfl⟩;have HZ:=zh hz;clear hz;go_wp2_with fail;go_ret;exact ⟨by rw [← decide_eq_decide.2 HZ.out];rfl,rfl⟩
end
section
open Go.RowKit
def atS (v b s:Nat) (st:Nat × Nat) (x:En):Nat × Nat:=if zj x.1=v∧zo x.1=b∧zp x.1≤s∧st.2≤zp x.1 then (x.2,zp x.1) else st
def nxS (k:Nat) (st:Nat) (x:En):Nat:=if zj x.1=zj k∧zo x.1=zo k∧zp k < zp x.1∧(st=0∨zp x.1 < st) then zp x.1 else st
def zmT (l:List En) (k:Nat):Nat:=l.foldl (nxS k) 0
end
section
open Go.RowKit
theorem ziV {α:Type} (f:α→Bool) (l:List α) {i:Nat} {x:α} (hx:l[i]? =some x):(l.take (i+1)).filter f=(l.take i).filter f++if f x then [x] else []:=by
 rw [List.take_add_one,hx,List.filter_append]
 cases h:f x <;> simp [h]
def zkY (l:List En) (v:Nat) (ps:List Nat) (fl:Nat) (x:En):Bool:=decide (zj x.1=v) && !zaC ps fl (zp x.1) (zmT l x.1)
end
section
def pAt (v b s:Nat) (x:En):Bool:=decide (zj x.1=v∧zo x.1=b∧zp x.1≤s)
theorem zdx {α:Type} (p:α→Bool) (l:List α) (x:α):(l++ [x]).filter p=l.filter p++if p x then [x] else []:=by
 rw [List.filter_append]
 cases h:p x <;> simp [h]
theorem zfs {α:Type} (p:α→Bool) {l:List α} {e:α} (h:l.getLast? =some e) (hp:p e=true):(l.filter p).getLast? =some e:=by
 obtain ⟨l',rfl⟩:∃l',l=l'++ [e]:=by
  refine ⟨l.dropLast, ?_⟩;have Aj:l≠ []:=fun e=> by rw [e] at h;cases h
  rw [List.getLast?_eq_some_getLast Aj] at h;rw [← Option.some.inj h];exact (List.dropLast_concat_getLast Aj).symm
 rw [zdx,hp];simp
theorem zia {l:List En} (hr:zac l) {e:En} (h:l.getLast? =some e):∀x ∈ l,x.1≤e.1:=by
 obtain ⟨l',rfl⟩:∃l',l=l'++ [e]:=by
  refine ⟨l.dropLast, ?_⟩;have Aj:l≠ []:=fun e=> by rw [e] at h;cases h
  rw [List.getLast?_eq_some_getLast Aj] at h;rw [← Option.some.inj h];exact (List.dropLast_concat_getLast Aj).symm
 intro x hx;rcases List.mem_append.1 hx with hx | hx
 ·have:=hr.cross x hx e (by simp)
  omega
 ·simp at hx;rw [hx];exact zl
theorem zcz {x y:Nat} (hv:zj x=zj y) (hb:zo x=zo y):(x≤y↔zp x≤zp y)∧(x < y↔zp x < zp y):=by
 have h1:=zcc x;have h2:=zcc y;unfold za9 at h1 h2;rw [hv,hb] at h1
 constructor <;> constructor <;> intro h <;> omega
theorem fold_at {l:List En} (v b s:Nat) (hr:zac l):l.foldl (atS v b s) (0,0)=match (l.filter (pAt v b s)).getLast? with
 | some e=> (e.2,zp e.1)
 | none=> (0,0):=by
 induction hl:l.length generalizing l with
 | zero=>
   obtain rfl:=List.eq_nil_of_length_eq_zero hl
   rfl
 | succ m ih=>
   obtain ⟨l',x,rfl⟩:∃l' x,l=l'++ [x]:=by
    have Aj:l≠ []:=fun e=> by rw [e] at hl;cases hl
    exact ⟨l.dropLast,l.getLast Aj,(List.dropLast_concat_getLast Aj).symm⟩
   rw [List.foldl_append,List.foldl_cons,List.foldl_nil,ih hr.left (by simpa using hl),zdx]
   by_cases hp:zj x.1=v∧zo x.1=b∧zp x.1≤s
   ·have Ew:pAt v b s x=true:=decide_eq_true hp;rw [Ew,if_pos rfl,List.getLast?_concat]
    show atS v b s _ x=(x.2,zp x.1)
    refine if_pos ⟨hp.1,hp.2.1,hp.2.2, ?_⟩
    cases he:(l'.filter (pAt v b s)).getLast? with
    | none=> exact Nat.zero_le _
    | some e=>
      have hm:=List.mem_filter.1 (List.mem_of_getLast? he);have Fa:=of_decide_eq_true hm.2;have hlt:=hr.cross e hm.1 x (by simp)
      have:=(zcz (x:=e.1) (y:=x.1) (by rw [Fa.1,hp.1]) (by rw [Fa.2.1,hp.2.1])).2.1 hlt
      show zp e.1≤zp x.1
      omega
   ·have MP:pAt v b s x=false:=decide_eq_false hp;rw [MP];simp only [Bool.false_eq_true,if_false,List.append_nil];exact if_neg fun h=> hp ⟨h.1,h.2.1,h.2.2.1⟩
theorem zde {l:List En} (hr:zac l) (v b s:Nat) (hb:b < 4294967296) (hs:s < 18446744073709551616):atL l v b s=match (l.filter (pAt v b s)).getLast? with
 | some e=> e.2
 | none=> 0:=by
 unfold atL zb2;have kT:=zeV (v:=v) hb hs;have ED:=zdl (v:=v) hb hs;have EE:=zdm (v:=v) (b:=b) hs;have AP:∀x,pAt v b s x=true→x.1≤za9 v b s:=fun x hx=> by
  obtain ⟨h1,h2,h3⟩:=of_decide_eq_true hx;exact (zcz (by rw [h1,kT]) (by rw [h2,ED])).1.2 (by rw [EE];exact h3)
 have SU:l.filter (pAt v b s)=(l.filter fun x=> decide (x.1≤za9 v b s)).filter (pAt v b s):=by
  rw [List.filter_filter];refine List.filter_congr fun x _=> ?_
  cases hp:pAt v b s x with
  | false=> rfl
  | true=> simp [AP x hp]
 have aO:zac (l.filter fun x=> decide (x.1≤za9 v b s)):=hr.sublist List.filter_sublist;have BO:∀x ∈ l.filter (fun x=> decide (x.1≤za9 v b s)),x.1≤za9 v b s:=fun x hx=> of_decide_eq_true (List.mem_filter.1 hx).2;rw [SU];generalize l.filter (fun x=> decide (x.1≤za9 v b s))=F at *
 cases hF:F.getLast? with
 | none=>
   have:F= []:=List.getLast?_eq_none_iff.1 hF;rw [this]
   rfl
 | some e=>
   by_cases hc:zj e.1=v∧zo e.1=b
   ·have Fa:pAt v b s e=true:=decide_eq_true ⟨hc.1,hc.2,by
        have h1:=BO e (List.mem_of_getLast? hF);have h2:=(zcz (x:=e.1) (y:=za9 v b s) (by rw [hc.1,kT]) (by rw [hc.2,ED])).1.1 h1
        rw [EE] at h2;exact h2⟩
    rw [zfs _ hF Fa];simp only;rw [if_pos hc]
   ·simp only;rw [if_neg hc];have:F.filter (pAt v b s)= []:=List.filter_eq_nil_iff.2 fun x hx hp=> by
        obtain ⟨h1,h2,h3⟩:=of_decide_eq_true hp;have MZ:=zia aO hF x hx;have Pm:=BO e (List.mem_of_getLast? hF)
        apply hc
        have e1:=zcc x.1;have e2:=zcc e.1;have:=zec x.1;have:=zec e.1;have:=zmG e.1;unfold za9 at e1 e2 Pm;rw [h1,h2] at e1
        constructor <;> omega
    rw [this]
    rfl
def pNx (k:Nat) (x:En):Bool:=decide (zj x.1=zj k∧zo x.1=zo k∧zp k < zp x.1)
theorem zgl {l:List En} (hr:zac l) (k:Nat):zmT l k=match (l.filter (pNx k)).head? with
 | some e=> zp e.1
 | none=> 0:=by
 unfold zmT
 induction hl:l.length generalizing l with
 | zero=>
   obtain rfl:=List.eq_nil_of_length_eq_zero hl
   rfl
 | succ m ih=>
   obtain ⟨l',x,rfl⟩:∃l' x,l=l'++ [x]:=by
    have Aj:l≠ []:=fun e=> by rw [e] at hl;cases hl
    exact ⟨l.dropLast,l.getLast Aj,(List.dropLast_concat_getLast Aj).symm⟩
   rw [List.foldl_append,List.foldl_cons,List.foldl_nil,ih hr.left (by simpa using hl),zdx]
   cases he:(l'.filter (pNx k)).head? with
   | none=>
     have CU:l'.filter (pNx k)= []:=List.head?_eq_none_iff.1 he;rw [CU]
     by_cases hp:zj x.1=zj k∧zo x.1=zo k∧zp k < zp x.1
     ·rw [show pNx k x=true from decide_eq_true hp];exact if_pos ⟨hp.1,hp.2.1,hp.2.2, .inl rfl⟩
     ·rw [show pNx k x=false from decide_eq_false hp];exact if_neg fun h=> hp ⟨h.1,h.2.1,h.2.2.1⟩
   | some e=>
     have hm:=List.mem_filter.1 (List.mem_of_head? he);have Fa:=of_decide_eq_true hm.2;have hh:(l'.filter (pNx k)++if pNx k x=true then [x] else []).head? =some e:=by
        rw [List.head?_append,he];rfl
     rw [hh];refine if_neg ?_;rintro ⟨h1,h2,h3,h4⟩;have hlt:=hr.cross e hm.1 x (by simp)
     have:=(zcz (x:=e.1) (y:=x.1) (by rw [Fa.1,h1]) (by rw [Fa.2.1,h2])).2.1 hlt
     rcases h4 with h4 | h4 <;> simp only at h4 <;> omega
theorem zoh {l:List En} (hr:zac l) (v i:Nat) {x:En} (hx:(zdE l v)[i]? =some x):zeg (zdE l v) i=zmT l x.1:=by
 have Zf:zac (zdE l v):=hr.sublist List.filter_sublist;have IS:zj x.1=v:=of_decide_eq_true (List.mem_filter.1 (zm hx)).2;have hV:l.filter (pNx x.1)=(zdE l v).filter (pNx x.1):=by
  unfold zdE;rw [List.filter_filter];refine List.filter_congr fun y _=> ?_
  cases hp:pNx x.1 y with
  | false=> rfl
  | true=>
    have:=(of_decide_eq_true hp).1;simp [this,IS]
 have Bq:∀y ∈ zdE l v,zj y.1=v:=fun y hy=> of_decide_eq_true (List.mem_filter.1 hy).2;rw [zgl hr,hV];unfold zeg;rw [hx];generalize zdE l v=V at *;have hlt:=(zi hx).1;have Gg:V=V.take (i+1)++V.drop (i+1):=(List.take_append_drop _ _).symm;have hfirst:(V.take (i+1)).filter (pNx x.1)= []:=List.filter_eq_nil_iff.2 fun y hy hp=> by
  obtain ⟨h1,h2,h3⟩:=of_decide_eq_true hp;obtain ⟨j,hj⟩:=List.getElem?_of_mem hy;have FT:=(zi hj).1;rw [List.length_take] at FT;rw [List.getElem?_take_of_lt (by omega)] at hj
  have BO:y.1≤x.1:=by
   by_cases e:j=i
   ·rw [e,hx] at hj;cases hj;exact zl
   ·have:=List.pairwise_iff_getElem.1 Zf j i (zi hj).1 hlt (by omega)
    rw [(zi hj).2,(zi hx).2] at this
    omega
  have:=(zcz (x:=y.1) (y:=x.1) h1 h2).1.1 BO
  omega
 rw [Gg,List.filter_append,hfirst,List.nil_append];rw [← Gg]
 cases hy:V[i+1]? with
 | none=>
   have:V.drop (i+1)= []:=List.drop_eq_nil_of_le (by have:=List.getElem?_eq_none_iff.1 hy;omega)
   rw [this]
   rfl
 | some y =>
   have hd:V.drop (i+1)=y::V.drop (i+2):=by
    rw [List.drop_eq_getElem_cons (zi hy).1,(zi hy).2]
   have B8:x.1 < y.1:=by
    have:=List.pairwise_iff_getElem.1 Zf i (i+1) hlt (zi hy).1 (by omega)
    rw [(zi hx).2,(zi hy).2] at this;exact this
   have cF:=Bq y (zm hy);rw [hd];simp only
   by_cases hs:zj x.1=zj y.1∧zo x.1=zo y.1
   ·rw [if_pos hs];have:pNx x.1 y=true:=decide_eq_true ⟨hs.1.symm,hs.2.symm,(zcz hs.1 hs.2).2.1 B8⟩;rw [List.filter_cons_of_pos this]
    rfl
   ·rw [if_neg hs];have CU:(y::V.drop (i+2)).filter (pNx x.1)= []:=List.filter_eq_nil_iff.2 fun z hz hp=> by
        obtain ⟨h1,h2,h3⟩:=of_decide_eq_true hp;have cG:y.1≤z.1:=by
         rcases List.mem_cons.1 hz with rfl | hz
         ·exact zl
         ·have Dn:zac (y::V.drop (i+2)):=by rw [← hd];exact Zf.sublist (List.drop_sublist _ _)
          have:=(List.pairwise_cons.1 Dn).1 z hz
          omega
        apply hs
        have e1:=zcc x.1;have e2:=zcc y.1;have e3:=zcc z.1;have:=zec x.1;have:=zec y.1;have:=zec z.1;unfold za9 at e1 e2 e3;rw [h1,h2] at e3
        constructor <;> omega
    rw [CU]
    rfl
theorem zdL {V:List En} {ps:List Nat} {fl:Nat} (f:En→Bool) (hf:∀i x,V[i]? =some x→(!zaC ps fl (zp x.1) (zeg V i))=f x):∀i,i≤V.length→zb4 V ps fl i=(V.take i).filter f
 | 0,_=> by simp [zb4]
 | i+1,h=> by
   obtain ⟨x,hx⟩:∃x,V[i]? =some x:=⟨_,ze (by omega)⟩
   rw [zdz V ps fl i hx,zdL f hf i (by omega),ziV f V hx,← hf i x hx]
   cases zaC ps fl (zp x.1) (zeg V i) <;> rfl
theorem zmx {l:List En} (hr:zac l) (v:Nat) (ps:List Nat) (fl:Nat):zcQ l v ps fl=l.filter (zkY l v ps fl):=by
 unfold zcQ;rw [zdL (zkY l v ps fl) (fun i x hx=> ?_) _ zl,List.take_length]
 ·unfold zdE;rw [List.filter_filter];refine List.filter_congr fun x _=> ?_;unfold zkY
  cases decide (zj x.1=v) <;> simp
 ·rw [zoh hr v i hx];unfold zkY;have IS:zj x.1=v:=of_decide_eq_true (List.mem_filter.1 (zm hx)).2;simp [IS]
theorem zcu {l:List En} (hr:zac l) (f:En→Bool):zao l (l.filter f)=l.filter fun x=> !f x:=by
 rw [zct hr (fun e he=> (List.mem_filter.1 he).1) ((zek hr).sublist List.filter_sublist)];refine List.filter_congr fun x hx=> ?_
 cases h:f x with
 | true=> simp [List.mem_filter,hx,h]
 | false=> simp [List.mem_filter,h]
theorem zol {l:List En} (hr:zac l) (v:Nat) (ps:List Nat) (fl:Nat) (u b s:Nat) (hb:b < 4294967296) (hs:s < 18446744073709551616) (h:fl≤s∨s ∈ ps):atL (l.filter fun x=> !zkY l v ps fl x) u b s=atL l u b s:=by
 rw [zde (hr.sublist List.filter_sublist) u b s hb hs,zde hr u b s hb hs];have hc:(l.filter fun x=> !zkY l v ps fl x).filter (pAt u b s)=(l.filter (pAt u b s)).filter fun x=> !zkY l v ps fl x:=by
  rw [List.filter_filter,List.filter_filter];refine List.filter_congr fun x _=> ?_;rw [Bool.and_comm]
 rw [hc];have aP:zac (l.filter (pAt u b s)):=hr.sublist List.filter_sublist
 cases hF:(l.filter (pAt u b s)).getLast? with
 | none=>
   rw [List.getLast?_eq_none_iff.1 hF]
   rfl
 | some e=>
   have hm:=List.mem_filter.1 (List.mem_of_getLast? hF);have Fa:=of_decide_eq_true hm.2;have aF:(!zkY l v ps fl e)=true:=by
    unfold zkY
    by_cases hv:zj e.1=v
    ·have hn:zaC ps fl (zp e.1) (zmT l e.1)=true:=by
      rw [zgl hr]
      cases hh:(l.filter (pNx e.1)).head? with
      | none=> unfold zaC;simp
      | some y=>
        have hy:=List.mem_filter.1 (List.mem_of_head? hh);have Vz:=of_decide_eq_true hy.2;have hlt:s < zp y.1:=Nat.lt_of_not_le fun BO=> by
         have G8:y ∈ l.filter (pAt u b s):=List.mem_filter.2 ⟨hy.1,decide_eq_true ⟨by rw [Vz.1,Fa.1],by rw [Vz.2.1,Fa.2.1],BO⟩⟩
         have h1:=zia aP hF y G8;have h2:=(zcz (x:=y.1) (y:=e.1) Vz.1 Vz.2.1).1.1 h1
         omega
        unfold zaC;rcases h with h | h
        ·simp [show fl < zp y.1 by omega]
        ·have:(ps.any fun p=> decide (zp e.1≤p) && decide (p < zp y.1))=true:=List.any_eq_true.2 ⟨s,h,by simp [Fa.2.2,hlt]⟩
         simp [this]
     simp [hn]
    ·simp [hv]
   rw [zfs (fun x=> !zkY l v ps fl x) hF aF]
end
section
abbrev Mk:=Nat × Nat
structure Vl where
 id:Nat
 born:Nat
 sizes:List Mk
structure Gp where
 id:Nat
 ms:List Int
structure Bk where
 id:Nat
 seq:Nat
 ms:List Int
structure Ct where
 nv:Nat
 ng:Nat
 nb:Nat
 fl:Nat
 vols:List Vl
 groups:List Gp
 books:List Bk
 kept:List Nat
 times:List Mk
def zdD (l:List Mk) (s:Nat):Option Nat:=((l.filter fun m=> decide (m.1≤s)).getLast?).map (·.2)
def zas (l:List Mk):Nat:=(l.getLast?.map (·.2)).getD 0
def zdZ (l:List Mk) (s:Nat):Bool:=match l.getLast? with
 | none=> false
 | some t=> decide (s≤t.1)
def zbf (l:List Mk) (s n:Nat):Nat × List Mk:=
 if zdZ l s=true then (10, []) else if zas l=n then (0,l) else if 16≤l.length then (32, []) else (0,l++ [(s,n)])
def za4 (ps:List Nat) (fl:Nat):List Mk→List Mk
 | []=> []
 | [m]=> [m]
 | m::x::l=> if fl < x.1∨∃p ∈ ps,m.1≤p∧p < x.1 then m::za4 ps fl (x::l) else za4 ps fl (x::l)
theorem zeG {ps qs:List Nat} (h:∀x,x ∈ ps↔x ∈ qs) (fl:Nat):∀l,za4 ps fl l=za4 qs fl l
 | []=> rfl
 | [m]=> rfl
 | m::x::l=> by
   unfold za4;rw [zeG h fl (x::l)];have:(fl < x.1∨∃p ∈ ps,m.1≤p∧p < x.1)↔(fl < x.1∨∃p ∈ qs,m.1≤p∧p < x.1):=by simp only [h]
   simp only [this]
def zjz (l:List Mk) (t:Nat):Option Nat:=((l.filter fun m=> decide (m.2≤t)).getLast?).map (·.1)
def za7 (l:List Mk) (s t:Nat):Nat × List Mk:=
 match l.getLast? with
 | none=> (0, [(s,t)])
 | some x=> if s≤x.1∨t < x.2 then (10, []) else if t=x.2 then (0,l.dropLast++ [(s,t)]) else if 64≤l.length then (32, []) else (0,l++ [(s,t)])
def zaZ (ps:List Nat) (fl:Nat) (l:List Mk):List Mk:=l.filter fun m=> decide (fl≤m.1) || decide (m.1 ∈ ps)
theorem zim {ps qs:List Nat} (h:∀x,x ∈ ps↔x ∈ qs) (fl:Nat) (l:List Mk):zaZ ps fl l=zaZ qs fl l:=by
 unfold zaZ;simp only [h]
def Ct.find (c:Ct) (v:Int):Option Vl:=c.vols.find? fun x=> decide ((x.id:Int)=v)
def Ct.ofL (c:Ct) (v:Int):List Nat:=c.kept++(c.books.filter fun b=> decide (v ∈ b.ms)).map (·.seq)
def Ct.allL (c:Ct):List Nat:=c.kept++c.books.map (·.seq)
def Ct.may (c:Ct) (v:Int) (s last:Nat):Bool:=match c.find v with
 | none=> false
 | some x=> decide (x.born≤s) && (decide (s≤last) && (decide (c.fl≤s) || decide (s ∈ c.ofL v)))
def Ct.sizeAt (c:Ct) (v:Int) (s last:Nat):Nat × Nat:=match c.find v with
 | none=> (40,0)
 | some x=> match zdD x.sizes s with
   | none=> (44,0)
   | some n=> if c.may v s last then (0,n) else (44,0)
def Ct.size (c:Ct) (v:Int):Nat:=match c.find v with
 | none=> 0
 | some x=> zas x.sizes
def Ct.create (c:Ct) (size seq:Nat):Nat × Ct × Nat:=
 if 8≤c.vols.length∨65535≤c.nv then (32,c,0) else (0,{c with nv:=c.nv+1,vols:=c.vols++ [⟨c.nv+1,seq, [(seq,size)]⟩]},c.nv+1)
def Ct.delete (c:Ct) (v:Int):Ct:={c with vols:=c.vols.eraseP fun x=> decide ((x.id:Int)=v)}
def Ct.resize (c:Ct) (v:Int) (l:List Mk):Ct:={c with vols:=c.vols.map fun x=> if (x.id:Int)=v then {x with sizes:=l} else x}
def Ct.add (c:Ct) (ms:List Int):Nat × Ct × Nat:=
 if ms.any fun m=> (c.find m).isNone then (40,c,0)
 else if 4≤c.groups.length∨65535≤c.ng then (32,c,0)
 else (0,{c with ng:=c.ng+1,groups:=c.groups++ [⟨c.ng+1,ms⟩]},c.ng+1)
def Ct.group (c:Ct) (i:Int):Option Gp:=c.groups.find? fun x=> decide ((x.id:Int)=i)
def Ct.book (c:Ct) (i:Int):Option Bk:=c.books.find? fun x=> decide ((x.id:Int)=i)
def Ct.ungroup (c:Ct) (i:Int):Ct:={c with groups:=c.groups.eraseP fun x=> decide ((x.id:Int)=i)}
def Ct.unmark (c:Ct) (i:Int):Ct:={c with books:=c.books.eraseP fun x=> decide ((x.id:Int)=i)}
def Ct.mark (c:Ct) (i:Int) (seq:Nat):Nat × Ct × Nat:=match c.group i with
 | none=> (42,c,0)
 | some g=> if 8≤c.books.length∨65535≤c.nb then (32,c,0) else (0,{c with nb:=c.nb+1,books:=c.books++ [⟨c.nb+1,seq,g.ms⟩]},c.nb+1)
def Ct.forget (c:Ct) (v:Int):Ct:=
 { c with
   groups:=c.groups.filterMap fun g=> let m:=g.ms.filter fun x=> decide (x≠v);if m= [] then none else some {g with ms:=m}
   books:=c.books.filterMap fun b=> let m:=b.ms.filter fun x=> decide (x≠v);if m= [] then none else some {b with ms:=m}}
def Ct.floor (c:Ct) (now window:Nat):Nat:=if now < window then c.fl else match zjz c.times (now - window) with
 | none=> c.fl
 | some s=> max c.fl s
def zcZ (every lo:Nat):Nat→Nat→List Nat
 | 0,_=> []
 | f+1,n=> if n < lo then [] else if n < every then [n] else n::zcZ every lo f (n - every)
def Ct.keep (c:Ct) (fl every:Nat):List Nat:=
 let more:=if every=0∨fl=0 then [] else zcZ every c.fl 32 ((fl - 1) / every * every)
 let out:=c.kept++more.reverse
 out.drop (out.length - 32)
def Ct.retain (c:Ct) (now window every:Nat):Ct:=
 let fl:=c.floor now window
 let c1:Ct:={c with fl:=fl,kept:=c.keep fl every}
 {c1 with times:=zaZ c1.allL fl c.times,vols:=c.vols.map fun x=> {x with sizes:=za4 (c1.ofL x.id) fl x.sizes}}
end
section
def znF (n:Int):Bool:=decide (1≤n) && decide (n≤65535)
def zfv (n:Int):Bool:=decide (0≤n) && decide (n≤31)
def zfu (n:Int):Bool:=decide (1≤n) && decide (n≤32)
def zj7 (n:Nat):Bool:=decide (1≤n) && decide (n≤64)
def zbU:Int→List Int→Bool
 | _, []=> true
 | last,x::r=> decide (last < x) && decide (x≤65535) && zbU x r
def zfT (l:List Int):Bool:=zbU 0 l && (decide (1≤l.length) && decide (l.length≤8))
def zh1 (k:Int):List UInt8:=
 if k=1 then [110] else if k=2 then [118] else if k=3 then [118,110] else if k=4 then [118,98,100] else if k=5 then [118,98,110]
 else if k=6 then [109] else if k=7 then [105] else if k=8 then [105] else if k=9 then [105] else if k=10 then [118,112] else if k=11 then [118,112]
 else if k=12 then [118,105] else if k=13 then [118,112] else if k=14 then [] else if k=15 then [118,98] else if k=16 then [118,98,112]
 else if k=17 then [] else if k=18 then [112] else []
def zpW (v i b n:Int) (dn:Nat) (mem:List Int) (c:UInt8):Bool:=
 if c=118 then znF v else if c=105 then znF i else if c=98 then zfv b else if c=110 then zfu n else if c=100 then zj7 dn else if c=109 then zfT mem else true
def zeC (k v i b n:Int) (dn:Nat) (mem:List Int):Bool:=
 (decide (1≤k) && decide (k≤19)) && (zh1 k).all (zpW v i b n dn mem)
theorem kinds (k:Int) (h1:1≤k) (h2:k≤19):k=1∨k=2∨k=3∨k=4∨k=5∨k=6∨k=7∨k=8∨k=9∨k=10∨k=11∨k=12∨k=13∨k=14∨k=15∨k=16∨k=17∨k=18∨k=19:=by omega
structure PO where
 k:Int
 v:Int
 i:Int
 b:Int
 n:Int
 pt:Int
 d:List UInt8
 m:List Int
def PO.right (o:PO):Bool:=zeC o.k o.v o.i o.b o.n o.d.length o.m
end
end Go.Proofs.YtaoceecfjlkmdaaGreat
