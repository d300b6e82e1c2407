/- Lemmas of the walks, merged and pressed by press.py. Conditions: those of each theorem. -/
import Derived.Test.YtfldlfladcfggaaGreatM19
import Derived.Deep.CutRange
import Derived.Test.YtfldlfladcfggaaGreatProg
import Derived.Test.YtfldlfladcfggaaGreatM1
set_option maxRecDepth 100000
set_option maxHeartbeats 64000000
set_option linter.all false
namespace Go.Proofs.YtfldlfladcfggaaGreat
section
open Go.RowKit
theorem zmn {S:Nat→Prop} {w:World} {pt:Nat} {l:List En} (h:za5 w S pt l) (hl:l.length≤2000) (k:Nat):
 Calls Tryz.prog 73 #[zv pt,za2 k] w fun r w'=> r= .returned (zhR (zb2 l k))∧Below w.heap.size w w':=by
 rcases h.has with ⟨rfl,h2⟩ | ⟨d,p,t,h1,h2,hR,rfl⟩
 ·exact zkV h2 k
 ·exact zkW h1 h2 h.lt hR.lo hR.hi hR.kids h.rise (by have:=hR.depth hl;omega) k
theorem zf6 {w:World} {ph pt pa:Nat} {l:List En} {F:List Nat} {L:List Uc} {n:Nat} {E:Nat→Prop} (h:zaF w ph pt pa l F L n E) (hl:l.length≤2000) (v b s:Nat) (hv:v < 65536) (hb:b < 4294967296) (hs:s < 18446744073709551616):
 Calls Tryz.prog 35 #[zv ph, .int .i64 (v:Int), .int .i64 (b:Int), .int .u64 (s:Int)] w fun e w'=> e= .returned (.int .u32 (atL l v b s:Int))∧Below w.heap.size w w':=by
 obtain ⟨w1,Ab⟩:∃w1,w1=w.alloc (.cells #[.int .u16 (v:Int), .int .u32 (b:Int), .int .u64 (s:Int)] 132):=⟨_,rfl⟩;have Aq:Below w.heap.size w w1:=by rw [Ab];exact zr.alloc zl _
 have hX:w1.heap[w.heap.size]? =some (.cells #[.int .u16 (v:Int), .int .u32 (b:Int), .int .u64 (s:Int)] 132 (0,0)):=by rw [Ab];exact heap_alloc_new w _
 have Ih:=h.hlt;have h':=h.below Aq;obtain ⟨r0,-⟩:=h'.reads;have AF:(atL l v b s:Int)=match zb2 l (za9 v b s) with
  | some e=> if zj e.1=v∧zo e.1=b then (e.2:Int) else 0
  | none=> 0:=by
  unfold atL
  cases zb2 l (za9 v b s) with
  | none=> rfl
  | some e=> by_cases h:zj e.1=v∧zo e.1=b <;> simp [h]
 have HF:=zh (fun (W:World) (hW:Below w1.heap.size w1 W)=> by
  obtain ⟨S,D,h1,h2,h3,h4,h5⟩:=(h'.below hW).has;exact zmn h2 hl (za9 v b s))
 have Cj:=zh AF;have e0:=zj2 (v:=v) hb hs;have LQ:=zh (fun (e:En) (W:World)=> zkf e.1 (za9 v b s) W);have HV:=zh (zn (zeV (v:=v) hb hs) (zdl (v:=v) hb hs));rw [e0] at HF LQ;obtain ⟨y0,y1,y2⟩:w1.cell? ⟨w.heap.size,0,none⟩=some (.int .u16 (v:Int))∧w1.cell? ⟨w.heap.size,1,none⟩=some (.int .u32 (b:Int))∧w1.cell? ⟨w.heap.size,2,none⟩=some (.int .u64 (s:Int)):=⟨cell_of_row w1 _ 0 _ _ _ hX,cell_of_row w1 _ 1 _ _ _ hX,cell_of_row w1 _ 2 _ _ _ hX⟩;have s1:IntKind.u16.wrap (v:Int)=(v:Int):=by simp [IntKind.wrap,IntKind.signed,IntKind.bits];omega
 have s2:IntKind.u32.wrap (b:Int)=(b:Int):=by simp [IntKind.wrap,IntKind.signed,IntKind.bits];omega
 have AR:w1.heap.size=w.heap.size+1:=by rw [Ab];simp
 have HZ:=zh AR;unfold zv at *;clear h h' AF e0 hX AR hv hb hs;go_enter Tryz.func35,Tryz.ntmps35;go_wp2_with fail;rw [← Ab];clear Ab;have VO:=zh Aq;clear Aq;generalize RI:w.heap.size=B at *;have DQ:=zh RI;clear RI;have hS:w1.drew.cell? ⟨B,0,none⟩=some (.int .u16 (v:Int))∧w1.drew.cell? ⟨B,1,none⟩=some (.int .u32 (b:Int))∧w1.drew.cell? ⟨B,2,none⟩=some (.int .u64 (s:Int))∧w1.drew.cell? ⟨ph,0,none⟩=some (.pointer (some ⟨pt,0,none⟩)):=⟨y0,y1,y2,r0⟩;have B9:=zh (fun (w5:World) (h5:Below w1.drew.heap.size w1.drew w5)=> show w5.cell? ⟨B,0,none⟩=some (.int .u16 (v:Int))∧w5.cell? ⟨B,1,none⟩=some (.int .u32 (b:Int))∧w5.cell? ⟨B,2,none⟩=some (.int .u64 (s:Int))∧w5.cell? ⟨ph,0,none⟩=some (.pointer (some ⟨pt,0,none⟩)) from
  ⟨(h5.cell (zb _ _ y0)).trans y0,(h5.cell (zb _ _ y1)).trans y1,(h5.cell (zb _ _ y2)).trans y2,(h5.cell (zb _ _ r0)).trans r0⟩)
 obtain ⟨wA,BR⟩:∃wA,wA=w1.alloc (.cells #[.int .u16 0, .int .u32 0, .int .u64 0, .int .u32 0] 141):=⟨_,rfl⟩;have hA:=heap_alloc_new w1 (.cells #[.int .u16 0, .int .u32 0, .int .u64 0, .int .u32 0] 141);have BI:Below w1.heap.size w1 wA:=by rw [BR];exact zr.alloc zl _
 rw [← BR] at hA;have bw:wA.heap.size=w1.heap.size+1:=by rw [BR];simp
 have Dt:=zh (fun (w5:World) (h5:Below wA.drew.heap.size wA.drew w5)=> show (w5.cell? ⟨B,0,none⟩=some (.int .u16 (v:Int))∧w5.cell? ⟨B,1,none⟩=some (.int .u32 (b:Int))∧w5.cell? ⟨B,2,none⟩=some (.int .u64 (s:Int))∧w5.cell? ⟨ph,0,none⟩=some (.pointer (some ⟨pt,0,none⟩)))∧w5.heap[w1.heap.size]? =some (.cells #[.int .u16 0, .int .u32 0, .int .u64 0, .int .u32 0] 141 (0,0))∧Below w1.heap.size w1 w5 from by
  have RH:Below w1.heap.size w1 w5:=BI.trans ((show Below wA.heap.size wA w5 from ⟨h5.os,h5.tape,h5.output,h5.size,h5.block⟩).mono (by omega))
  exact ⟨⟨(RH.cell (zb _ _ y0)).trans y0,(RH.cell (zb _ _ y1)).trans y1,(RH.cell (zb _ _ y2)).trans y2,(RH.cell (zb _ _ r0)).trans r0⟩,(h5.block w1.heap.size (by show w1.heap.size < wA.heap.size;omega)).trans hA,RH⟩)
 have YT:ph < w1.heap.size:=zb _ _ r0;have vO:B < w1.heap.size:=zb _ _ y0;have G1:=zh (fun (w5:World) (v0 v1 v2 v3:Value) (h5:w5.cell? ⟨B,0,none⟩=some (.int .u16 (v:Int))∧w5.cell? ⟨B,1,none⟩=some (.int .u32 (b:Int))∧w5.cell? ⟨B,2,none⟩=some (.int .u64 (s:Int))∧w5.cell? ⟨ph,0,none⟩=some (.pointer (some ⟨pt,0,none⟩)))=> show ((((w5.setCell ⟨w1.heap.size,0,none⟩ v0).setCell ⟨w1.heap.size,1,none⟩ v1).setCell ⟨w1.heap.size,2,none⟩ v2).setCell ⟨w1.heap.size,3,none⟩ v3).cell? ⟨B,0,none⟩=some (.int .u16 (v:Int))∧((((w5.setCell ⟨w1.heap.size,0,none⟩ v0).setCell ⟨w1.heap.size,1,none⟩ v1).setCell ⟨w1.heap.size,2,none⟩ v2).setCell ⟨w1.heap.size,3,none⟩ v3).cell? ⟨B,1,none⟩=some (.int .u32 (b:Int))∧((((w5.setCell ⟨w1.heap.size,0,none⟩ v0).setCell ⟨w1.heap.size,1,none⟩ v1).setCell ⟨w1.heap.size,2,none⟩ v2).setCell ⟨w1.heap.size,3,none⟩ v3).cell? ⟨B,2,none⟩=some (.int .u64 (s:Int))∧((((w5.setCell ⟨w1.heap.size,0,none⟩ v0).setCell ⟨w1.heap.size,1,none⟩ v1).setCell ⟨w1.heap.size,2,none⟩ v2).setCell ⟨w1.heap.size,3,none⟩ v3).cell? ⟨ph,0,none⟩=some (.pointer (some ⟨pt,0,none⟩)) by
  have e:∀j,j≠w1.heap.size→((((w5.setCell ⟨w1.heap.size,0,none⟩ v0).setCell ⟨w1.heap.size,1,none⟩ v1).setCell ⟨w1.heap.size,2,none⟩ v2).setCell ⟨w1.heap.size,3,none⟩ v3).heap[j]? =w5.heap[j]? :=fun j hj=> by
   rw [heap_setCell_other _ _ _ _ hj,heap_setCell_other _ _ _ _ hj,heap_setCell_other _ _ _ _ hj,heap_setCell_other _ _ _ _ hj]
  have e1:=e B (by omega)
  have e2:=e ph (by omega)
  exact ⟨(World.cell?_of_block e1).trans h5.1,(World.cell?_of_block e1).trans h5.2.1,(World.cell?_of_block e1).trans h5.2.2.1,(World.cell?_of_block e2).trans h5.2.2.2⟩)
 clear YT vO;have JZ:=zh (HF.out w1.drew (Below.drewB zr));have IY:=zh (HF.out wA.drew (Below.drewB BI));clear HF hA bw BI
 cases EP:zb2 l (za9 v b s) with
 | none =>
   rw [EP] at JZ IY Cj;unfold zhR at JZ IY;simp only at JZ IY Cj;clear EP;rw [BR] at IY Dt
   go_region_held (fun W'=> W'.cell? ⟨B,0,none⟩=some (.int .u16 (v:Int))∧W'.cell? ⟨B,1,none⟩=some (.int .u32 (b:Int))∧W'.cell? ⟨B,2,none⟩=some (.int .u64 (s:Int))∧W'.cell? ⟨ph,0,none⟩=some (.pointer (some ⟨pt,0,none⟩))) (first | with_reducible exact Ca | with_reducible exact hS | with_reducible exact G1.out _ _ _ _ _ Ca | go_keep)
    (first | (go_at_call 73;((with_reducible refine JZ.out.mono ?_);rintro e w5 ⟨rfl,Ag⟩;have Ca:=B9.out w5 Ag)) | (go_at_call 73;((with_reducible refine IY.out.mono ?_);rintro e w5 ⟨rfl,Ag⟩;obtain ⟨Ca,Nf,AT⟩:=Dt.out w5 Ag;obtain ⟨t0,t1,t2,t3,tf⟩:=zoJ Nf;have f0:=tf 0;have f1:=tf 1;have f2:=tf 2;have f3:=tf 3;clear tf)))
   all_goals
    have ZB:Hid (∀w6,Below w1.heap.size w1 w6→Below B w w6):=zh fun w6 h6=> VO.out.trans (h6.mono (by have:=HZ.out;omega))
    first
        | (have HG:=zh (zci AT zl (.int .u16 0) (.int .u32 0) (.int .u64 0) (.int .u32 0))
           clear B9 Dt G1 LQ JZ IY AT Ag;go_wp2_with fail;go_ret;exact ⟨by rw [Cj.out];rfl,by rw [DQ.out];exact ZB.out _ HG.out⟩)
        | (have HG:=zh ((show Below w1.heap.size w1 w5 from ⟨Ag.os,Ag.tape,Ag.output,Ag.size,Ag.block⟩).alloc Ag.size (.cells #[.int .u16 0, .int .u32 0, .int .u64 0, .int .u32 0] 141))
           clear B9 Dt G1 LQ JZ IY Ag;go_wp2_with fail;go_ret;exact ⟨by rw [Cj.out];rfl,by rw [DQ.out];exact ZB.out _ HG.out⟩)
 | some x=>
   rw [EP] at JZ IY Cj;unfold zhR zd1 at JZ IY;simp only at JZ IY Cj;clear EP;rw [BR] at IY Dt
   go_region_held (fun W'=> W'.cell? ⟨B,0,none⟩=some (.int .u16 (v:Int))∧W'.cell? ⟨B,1,none⟩=some (.int .u32 (b:Int))∧W'.cell? ⟨B,2,none⟩=some (.int .u64 (s:Int))∧W'.cell? ⟨ph,0,none⟩=some (.pointer (some ⟨pt,0,none⟩))) (first | with_reducible exact Ca | with_reducible exact hS | with_reducible exact G1.out _ _ _ _ _ Ca | go_keep)
    (first | (go_at_call 73;((with_reducible refine JZ.out.mono ?_);rintro e w5 ⟨rfl,Ag⟩;have Ca:=B9.out w5 Ag)) | (go_at_call 73;((with_reducible refine IY.out.mono ?_);rintro e w5 ⟨rfl,Ag⟩;obtain ⟨Ca,Nf,AT⟩:=Dt.out w5 Ag;obtain ⟨t0,t1,t2,t3,tf⟩:=zoJ Nf;have f0:=tf 0;have f1:=tf 1;have f2:=tf 2;have f3:=tf 3;clear tf)))
   all_goals
    first
        | (have LC:=heap_alloc_new w5 (.cells #[.int .u16 (zj x.1:Int), .int .u32 (zo x.1:Int), .int .u64 (zp x.1:Int), .int .u32 (x.2:Int)] 141)
           have CM:Below w1.heap.size w1 (w5.alloc (.cells #[.int .u16 (zj x.1:Int), .int .u32 (zo x.1:Int), .int .u64 (zp x.1:Int), .int .u32 (x.2:Int)] 141)):=(show Below w1.heap.size w1 w5 from ⟨Ag.os,Ag.tape,Ag.output,Ag.size,Ag.block⟩).alloc Ag.size _;have u0:=zu Ca.1 (.cells #[.int .u16 (zj x.1:Int), .int .u32 (zo x.1:Int), .int .u64 (zp x.1:Int), .int .u32 (x.2:Int)] 141);have u1:=zu Ca.2.1 (.cells #[.int .u16 (zj x.1:Int), .int .u32 (zo x.1:Int), .int .u64 (zp x.1:Int), .int .u32 (x.2:Int)] 141);have u2:=zu Ca.2.2.1 (.cells #[.int .u16 (zj x.1:Int), .int .u32 (zo x.1:Int), .int .u64 (zp x.1:Int), .int .u32 (x.2:Int)] 141);generalize (w5.alloc (.cells #[.int .u16 (zj x.1:Int), .int .u32 (zo x.1:Int), .int .u64 (zp x.1:Int), .int .u32 (x.2:Int)] 141))=w6 at *;generalize w5.heap.size=xb at *)
        | (have LC:=set4 Nf (.int .u16 (zj x.1:Int)) (.int .u32 (zo x.1:Int)) (.int .u64 (zp x.1:Int)) (.int .u32 (x.2:Int))
           obtain ⟨u0,u1,u2,-⟩:=G1.out w5 (.int .u16 (zj x.1:Int)) (.int .u32 (zo x.1:Int)) (.int .u64 (zp x.1:Int)) (.int .u32 (x.2:Int)) Ca;have CM:=zci AT zl (.int .u16 (zj x.1:Int)) (.int .u32 (zo x.1:Int)) (.int .u64 (zp x.1:Int)) (.int .u32 (x.2:Int));generalize ((((w5.setCell ⟨w1.heap.size,0,none⟩ (.int .u16 (zj x.1:Int))).setCell ⟨w1.heap.size,1,none⟩ (.int .u32 (zo x.1:Int))).setCell ⟨w1.heap.size,2,none⟩ (.int .u64 (zp x.1:Int))).setCell ⟨w1.heap.size,3,none⟩ (.int .u32 (x.2:Int)))=w6 at *;clear t0 t1 t2 t3 f0 f1 f2 f3 Nf AT;generalize GY:w1.heap.size=xb at *;rw [← GY] at CM HZ;clear GY)
   all_goals
    obtain ⟨p0,p1,p2,p3⟩:w6.cell? ⟨xb,0,none⟩=some (.int .u16 (zj x.1:Int))∧w6.cell? ⟨xb,1,none⟩=some (.int .u32 (zo x.1:Int))∧w6.cell? ⟨xb,2,none⟩=some (.int .u64 (zp x.1:Int))∧w6.cell? ⟨xb,3,none⟩=some (.int .u32 (x.2:Int)):=⟨cell_of_row w6 xb 0 _ _ _ LC,cell_of_row w6 xb 1 _ _ _ LC,cell_of_row w6 xb 2 _ _ _ LC,cell_of_row w6 xb 3 _ _ _ LC⟩;have Qs:=zh (LQ.out x w6);have DW:=zh CM;have UK:=zh LC;rw [HV.out.1,HV.out.2] at Qs;unfold za2 at Qs;clear Ag Ca hS LC CM y0 y1 y2 r0 B9 Dt G1 LQ JZ IY
    by_cases hc:zj x.1=v∧zo x.1=b
    ·have Ay:(zj x.1==v && zo x.1==b)=true:=by rw [hc.1,hc.2];simp
     rw [Ay] at Qs;have HC:=zh hc;clear hc Ay;go_wp2_with fail;refine Qs.out.mono ?_;rintro e w7 ⟨rfl,B1⟩;have p7:=(B1.cell (zb _ _ p3)).trans p3;have Qg:=zh B1;clear B1 p0 p1 p2 p3 u0 u1 u2;go_wp2_with fail;go_ret;refine ⟨by rw [Cj.out,if_pos HC.out];rfl,by rw [DQ.out];exact VO.out.trans ((DW.out.trans (Qg.out.mono DW.out.size)).mono (by have:=HZ.out;omega))⟩
    ·have Ay:(zj x.1==v && zo x.1==b)=false:=by
      rw [Bool.and_eq_false_iff]
      by_cases h1:zj x.1=v
      ·exact .inr (by rw [beq_eq_false_iff_ne];exact fun h2=> hc ⟨h1,h2⟩)
      ·exact .inl (by rw [beq_eq_false_iff_ne];exact h1)
     rw [Ay] at Qs;have HC:=zh hc;clear hc Ay;go_wp2_with fail;refine Qs.out.mono ?_;rintro e w7 ⟨rfl,B1⟩;have Qg:=zh B1;clear B1 p0 p1 p2 p3 u0 u1 u2;go_wp2_with fail;go_ret;refine ⟨by rw [Cj.out,if_neg HC.out];rfl,by rw [DQ.out];exact VO.out.trans ((DW.out.trans (Qg.out.mono DW.out.size)).mono (by have:=HZ.out;omega))⟩
end
section
open Go.RowKit
def zb0 (n:Nat):List Value:= [.int .u64 (n:Int)]
theorem zah (e:Nat):(zb0 e).length=1:=rfl
def zaC (ps:List Nat) (fl from' nxt:Nat):Bool:=decide (nxt=0) || decide (fl < nxt) || ps.any fun p=> decide (from'≤p) && decide (p < nxt)
end
section
open Go.RowKit
def zeg (all:List En) (i:Nat):Nat:=
 match all[i]?,all[i+1]? with
 | some e,some f=> if zj e.1=zj f.1∧zo e.1=zo f.1 then zp f.1 else 0
 | _,_=> 0
def zb4 (all:List En) (ps:List Nat) (fl:Nat) (i:Nat):List En:=
 (List.range i).flatMap fun j=> match all[j]? with
    | some e=> if zaC ps fl (zp e.1) (zeg all j) then [] else [e]
    | none=> []
def zcQ (l:List En) (v:Nat) (ps:List Nat) (fl:Nat):List En:=zb4 (zdE l v) ps fl (zdE l v).length
theorem zdz (all:List En) (ps:List Nat) (fl i:Nat) {e:En} (he:all[i]? =some e):zb4 all ps fl (i+1)=zb4 all ps fl i++if zaC ps fl (zp e.1) (zeg all i) then [] else [e]:=by
 unfold zb4;rw [List.range_succ,List.flatMap_append];simp only [List.flatMap_cons,List.flatMap_nil,List.append_nil,he]
end
section
open Go.RowKit
def nxS (k:Nat) (st:Nat) (x:En):Nat:=if zj x.1=zj k∧zo x.1=zo k∧zp k < zp x.1∧(st=0∨zp x.1 < st) then zp x.1 else st
def zmT (l:List En) (k:Nat):Nat:=l.foldl (nxS k) 0
end
section
open Go.RowKit
theorem ziV {α:Type} (f:α→Bool) (l:List α) {i:Nat} {x:α} (hx:l[i]? =some x):(l.take (i+1)).filter f=(l.take i).filter f++if f x then [x] else []:=by
 rw [List.take_add_one,hx,List.filter_append]
 cases h:f x <;> simp [h]
def zkY (l:List En) (v:Nat) (ps:List Nat) (fl:Nat) (x:En):Bool:=decide (zj x.1=v) && !zaC ps fl (zp x.1) (zmT l x.1)
end
section
def pAt (v b s:Nat) (x:En):Bool:=decide (zj x.1=v∧zo x.1=b∧zp x.1≤s)
theorem zdx {α:Type} (p:α→Bool) (l:List α) (x:α):(l++ [x]).filter p=l.filter p++if p x then [x] else []:=by
 rw [List.filter_append]
 cases h:p x <;> simp [h]
theorem zfs {α:Type} (p:α→Bool) {l:List α} {e:α} (h:l.getLast? =some e) (hp:p e=true):(l.filter p).getLast? =some e:=by
 obtain ⟨l',rfl⟩:∃l',l=l'++ [e]:=by
  refine ⟨l.dropLast, ?_⟩;have Aj:l≠ []:=fun e=> by rw [e] at h;cases h
  rw [List.getLast?_eq_some_getLast Aj] at h;rw [← Option.some.inj h];exact (List.dropLast_concat_getLast Aj).symm
 rw [zdx,hp];simp
theorem zia {l:List En} (hr:zac l) {e:En} (h:l.getLast? =some e):∀x ∈ l,x.1≤e.1:=by
 obtain ⟨l',rfl⟩:∃l',l=l'++ [e]:=by
  refine ⟨l.dropLast, ?_⟩;have Aj:l≠ []:=fun e=> by rw [e] at h;cases h
  rw [List.getLast?_eq_some_getLast Aj] at h;rw [← Option.some.inj h];exact (List.dropLast_concat_getLast Aj).symm
 intro x hx;rcases List.mem_append.1 hx with hx | hx
 ·have:=hr.cross x hx e (by simp)
  omega
 ·simp at hx;rw [hx];exact zl
theorem zcz {x y:Nat} (hv:zj x=zj y) (hb:zo x=zo y):(x≤y↔zp x≤zp y)∧(x < y↔zp x < zp y):=by
 have h1:=zcc x;have h2:=zcc y;unfold za9 at h1 h2;rw [hv,hb] at h1
 constructor <;> constructor <;> intro h <;> omega
theorem zde {l:List En} (hr:zac l) (v b s:Nat) (hb:b < 4294967296) (hs:s < 18446744073709551616):atL l v b s=match (l.filter (pAt v b s)).getLast? with
 | some e=> e.2
 | none=> 0:=by
 unfold atL zb2;have kT:=zeV (v:=v) hb hs;have ED:=zdl (v:=v) hb hs;have EE:=zdm (v:=v) (b:=b) hs;have AP:∀x,pAt v b s x=true→x.1≤za9 v b s:=fun x hx=> by
  obtain ⟨h1,h2,h3⟩:=of_decide_eq_true hx;exact (zcz (by rw [h1,kT]) (by rw [h2,ED])).1.2 (by rw [EE];exact h3)
 have SU:l.filter (pAt v b s)=(l.filter fun x=> decide (x.1≤za9 v b s)).filter (pAt v b s):=by
  rw [List.filter_filter];refine List.filter_congr fun x _=> ?_
  cases hp:pAt v b s x with
  | false=> rfl
  | true=> simp [AP x hp]
 have aO:zac (l.filter fun x=> decide (x.1≤za9 v b s)):=hr.sublist List.filter_sublist;have BO:∀x ∈ l.filter (fun x=> decide (x.1≤za9 v b s)),x.1≤za9 v b s:=fun x hx=> of_decide_eq_true (List.mem_filter.1 hx).2;rw [SU];generalize l.filter (fun x=> decide (x.1≤za9 v b s))=F at *
 cases hF:F.getLast? with
 | none=>
   have:F= []:=List.getLast?_eq_none_iff.1 hF;rw [this]
   rfl
 | some e=>
   by_cases hc:zj e.1=v∧zo e.1=b
   ·have Fa:pAt v b s e=true:=decide_eq_true ⟨hc.1,hc.2,by
        have h1:=BO e (List.mem_of_getLast? hF);have h2:=(zcz (x:=e.1) (y:=za9 v b s) (by rw [hc.1,kT]) (by rw [hc.2,ED])).1.1 h1
        rw [EE] at h2;exact h2⟩
    rw [zfs _ hF Fa];simp only;rw [if_pos hc]
   ·simp only;rw [if_neg hc];have:F.filter (pAt v b s)= []:=List.filter_eq_nil_iff.2 fun x hx hp=> by
        obtain ⟨h1,h2,h3⟩:=of_decide_eq_true hp;have MZ:=zia aO hF x hx;have Pm:=BO e (List.mem_of_getLast? hF)
        apply hc
        have e1:=zcc x.1;have e2:=zcc e.1;have:=zec x.1;have:=zec e.1;have:=zmG e.1;unfold za9 at e1 e2 Pm;rw [h1,h2] at e1
        constructor <;> omega
    rw [this]
    rfl
def pNx (k:Nat) (x:En):Bool:=decide (zj x.1=zj k∧zo x.1=zo k∧zp k < zp x.1)
theorem zgl {l:List En} (hr:zac l) (k:Nat):zmT l k=match (l.filter (pNx k)).head? with
 | some e=> zp e.1
 | none=> 0:=by
 unfold zmT
 induction hl:l.length generalizing l with
 | zero=>
   obtain rfl:=List.eq_nil_of_length_eq_zero hl
   rfl
 | succ m ih=>
   obtain ⟨l',x,rfl⟩:∃l' x,l=l'++ [x]:=by
    have Aj:l≠ []:=fun e=> by rw [e] at hl;cases hl
    exact ⟨l.dropLast,l.getLast Aj,(List.dropLast_concat_getLast Aj).symm⟩
   rw [List.foldl_append,List.foldl_cons,List.foldl_nil,ih hr.left (by simpa using hl),zdx]
   cases he:(l'.filter (pNx k)).head? with
   | none=>
     have CU:l'.filter (pNx k)= []:=List.head?_eq_none_iff.1 he;rw [CU]
     by_cases hp:zj x.1=zj k∧zo x.1=zo k∧zp k < zp x.1
     ·rw [show pNx k x=true from decide_eq_true hp];exact if_pos ⟨hp.1,hp.2.1,hp.2.2, .inl rfl⟩
     ·rw [show pNx k x=false from decide_eq_false hp];exact if_neg fun h=> hp ⟨h.1,h.2.1,h.2.2.1⟩
   | some e=>
     have hm:=List.mem_filter.1 (List.mem_of_head? he);have Fa:=of_decide_eq_true hm.2;have hh:(l'.filter (pNx k)++if pNx k x=true then [x] else []).head? =some e:=by
        rw [List.head?_append,he];rfl
     rw [hh];refine if_neg ?_;rintro ⟨h1,h2,h3,h4⟩;have hlt:=hr.cross e hm.1 x (by simp)
     have:=(zcz (x:=e.1) (y:=x.1) (by rw [Fa.1,h1]) (by rw [Fa.2.1,h2])).2.1 hlt
     rcases h4 with h4 | h4 <;> simp only at h4 <;> omega
theorem zoh {l:List En} (hr:zac l) (v i:Nat) {x:En} (hx:(zdE l v)[i]? =some x):zeg (zdE l v) i=zmT l x.1:=by
 have Zf:zac (zdE l v):=hr.sublist List.filter_sublist;have IS:zj x.1=v:=of_decide_eq_true (List.mem_filter.1 (zm hx)).2;have hV:l.filter (pNx x.1)=(zdE l v).filter (pNx x.1):=by
  unfold zdE;rw [List.filter_filter];refine List.filter_congr fun y _=> ?_
  cases hp:pNx x.1 y with
  | false=> rfl
  | true=>
    have:=(of_decide_eq_true hp).1;simp [this,IS]
 have Bq:∀y ∈ zdE l v,zj y.1=v:=fun y hy=> of_decide_eq_true (List.mem_filter.1 hy).2;rw [zgl hr,hV];unfold zeg;rw [hx];generalize zdE l v=V at *;have hlt:=(zi hx).1;have Gg:V=V.take (i+1)++V.drop (i+1):=(List.take_append_drop _ _).symm;have hfirst:(V.take (i+1)).filter (pNx x.1)= []:=List.filter_eq_nil_iff.2 fun y hy hp=> by
  obtain ⟨h1,h2,h3⟩:=of_decide_eq_true hp;obtain ⟨j,hj⟩:=List.getElem?_of_mem hy;have FT:=(zi hj).1;rw [List.length_take] at FT;rw [List.getElem?_take_of_lt (by omega)] at hj
  have BO:y.1≤x.1:=by
   by_cases e:j=i
   ·rw [e,hx] at hj;cases hj;exact zl
   ·have:=List.pairwise_iff_getElem.1 Zf j i (zi hj).1 hlt (by omega)
    rw [(zi hj).2,(zi hx).2] at this
    omega
  have:=(zcz (x:=y.1) (y:=x.1) h1 h2).1.1 BO
  omega
 rw [Gg,List.filter_append,hfirst,List.nil_append];rw [← Gg]
 cases hy:V[i+1]? with
 | none=>
   have:V.drop (i+1)= []:=List.drop_eq_nil_of_le (by have:=List.getElem?_eq_none_iff.1 hy;omega)
   rw [this]
   rfl
 | some y =>
   have hd:V.drop (i+1)=y::V.drop (i+2):=by
    rw [List.drop_eq_getElem_cons (zi hy).1,(zi hy).2]
   have B8:x.1 < y.1:=by
    have:=List.pairwise_iff_getElem.1 Zf i (i+1) hlt (zi hy).1 (by omega)
    rw [(zi hx).2,(zi hy).2] at this;exact this
   have cF:=Bq y (zm hy);rw [hd];simp only
   by_cases hs:zj x.1=zj y.1∧zo x.1=zo y.1
   ·rw [if_pos hs];have:pNx x.1 y=true:=decide_eq_true ⟨hs.1.symm,hs.2.symm,(zcz hs.1 hs.2).2.1 B8⟩;rw [List.filter_cons_of_pos this]
    rfl
   ·rw [if_neg hs];have CU:(y::V.drop (i+2)).filter (pNx x.1)= []:=List.filter_eq_nil_iff.2 fun z hz hp=> by
        obtain ⟨h1,h2,h3⟩:=of_decide_eq_true hp;have cG:y.1≤z.1:=by
         rcases List.mem_cons.1 hz with rfl | hz
         ·exact zl
         ·have Dn:zac (y::V.drop (i+2)):=by rw [← hd];exact Zf.sublist (List.drop_sublist _ _)
          have:=(List.pairwise_cons.1 Dn).1 z hz
          omega
        apply hs
        have e1:=zcc x.1;have e2:=zcc y.1;have e3:=zcc z.1;have:=zec x.1;have:=zec y.1;have:=zec z.1;unfold za9 at e1 e2 e3;rw [h1,h2] at e3
        constructor <;> omega
    rw [CU]
    rfl
theorem zdL {V:List En} {ps:List Nat} {fl:Nat} (f:En→Bool) (hf:∀i x,V[i]? =some x→(!zaC ps fl (zp x.1) (zeg V i))=f x):∀i,i≤V.length→zb4 V ps fl i=(V.take i).filter f
 | 0,_=> by simp [zb4]
 | i+1,h=> by
   obtain ⟨x,hx⟩:∃x,V[i]? =some x:=⟨_,ze (by omega)⟩
   rw [zdz V ps fl i hx,zdL f hf i (by omega),ziV f V hx,← hf i x hx]
   cases zaC ps fl (zp x.1) (zeg V i) <;> rfl
theorem zmx {l:List En} (hr:zac l) (v:Nat) (ps:List Nat) (fl:Nat):zcQ l v ps fl=l.filter (zkY l v ps fl):=by
 unfold zcQ;rw [zdL (zkY l v ps fl) (fun i x hx=> ?_) _ zl,List.take_length]
 ·unfold zdE;rw [List.filter_filter];refine List.filter_congr fun x _=> ?_;unfold zkY
  cases decide (zj x.1=v) <;> simp
 ·rw [zoh hr v i hx];unfold zkY;have IS:zj x.1=v:=of_decide_eq_true (List.mem_filter.1 (zm hx)).2;simp [IS]
theorem zcu {l:List En} (hr:zac l) (f:En→Bool):zao l (l.filter f)=l.filter fun x=> !f x:=by
 rw [zct hr (fun e he=> (List.mem_filter.1 he).1) ((zek hr).sublist List.filter_sublist)];refine List.filter_congr fun x hx=> ?_
 cases h:f x with
 | true=> simp [List.mem_filter,hx,h]
 | false=> simp [List.mem_filter,h]
end
section
abbrev Mk:=Nat × Nat
structure Vl where
 id:Nat
 born:Nat
 sizes:List Mk
structure Gp where
 id:Nat
 ms:List Int
structure Bk where
 id:Nat
 seq:Nat
 ms:List Int
structure Ct where
 nv:Nat
 ng:Nat
 nb:Nat
 fl:Nat
 vols:List Vl
 groups:List Gp
 books:List Bk
 kept:List Nat
 times:List Mk
def zdD (l:List Mk) (s:Nat):Option Nat:=((l.filter fun m=> decide (m.1≤s)).getLast?).map (·.2)
def zas (l:List Mk):Nat:=(l.getLast?.map (·.2)).getD 0
def zdZ (l:List Mk) (s:Nat):Bool:=match l.getLast? with
 | none=> false
 | some t=> decide (s≤t.1)
def zbf (l:List Mk) (s n:Nat):Nat × List Mk:=
 if zdZ l s=true then (10, []) else if zas l=n then (0,l) else if 16≤l.length then (32, []) else (0,l++ [(s,n)])
def za4 (ps:List Nat) (fl:Nat):List Mk→List Mk
 | []=> []
 | [m]=> [m]
 | m::x::l=> if fl < x.1∨∃p ∈ ps,m.1≤p∧p < x.1 then m::za4 ps fl (x::l) else za4 ps fl (x::l)
def zjz (l:List Mk) (t:Nat):Option Nat:=((l.filter fun m=> decide (m.2≤t)).getLast?).map (·.1)
def za7 (l:List Mk) (s t:Nat):Nat × List Mk:=
 match l.getLast? with
 | none=> (0, [(s,t)])
 | some x=> if s≤x.1∨t < x.2 then (10, []) else if t=x.2 then (0,l.dropLast++ [(s,t)]) else if 64≤l.length then (32, []) else (0,l++ [(s,t)])
def zaZ (ps:List Nat) (fl:Nat) (l:List Mk):List Mk:=l.filter fun m=> decide (fl≤m.1) || decide (m.1 ∈ ps)
def Ct.find (c:Ct) (v:Int):Option Vl:=c.vols.find? fun x=> decide ((x.id:Int)=v)
def Ct.ofL (c:Ct) (v:Int):List Nat:=c.kept++(c.books.filter fun b=> decide (v ∈ b.ms)).map (·.seq)
def Ct.allL (c:Ct):List Nat:=c.kept++c.books.map (·.seq)
def Ct.may (c:Ct) (v:Int) (s last:Nat):Bool:=match c.find v with
 | none=> false
 | some x=> decide (x.born≤s) && (decide (s≤last) && (decide (c.fl≤s) || decide (s ∈ c.ofL v)))
def Ct.sizeAt (c:Ct) (v:Int) (s last:Nat):Nat × Nat:=match c.find v with
 | none=> (40,0)
 | some x=> match zdD x.sizes s with
   | none=> (44,0)
   | some n=> if c.may v s last then (0,n) else (44,0)
def Ct.size (c:Ct) (v:Int):Nat:=match c.find v with
 | none=> 0
 | some x=> zas x.sizes
def Ct.create (c:Ct) (size seq:Nat):Nat × Ct × Nat:=
 if 8≤c.vols.length∨65535≤c.nv then (32,c,0) else (0,{c with nv:=c.nv+1,vols:=c.vols++ [⟨c.nv+1,seq, [(seq,size)]⟩]},c.nv+1)
def Ct.delete (c:Ct) (v:Int):Ct:={c with vols:=c.vols.eraseP fun x=> decide ((x.id:Int)=v)}
def Ct.resize (c:Ct) (v:Int) (l:List Mk):Ct:={c with vols:=c.vols.map fun x=> if (x.id:Int)=v then {x with sizes:=l} else x}
def Ct.add (c:Ct) (ms:List Int):Nat × Ct × Nat:=
 if ms.any fun m=> (c.find m).isNone then (40,c,0)
 else if 4≤c.groups.length∨65535≤c.ng then (32,c,0)
 else (0,{c with ng:=c.ng+1,groups:=c.groups++ [⟨c.ng+1,ms⟩]},c.ng+1)
def Ct.group (c:Ct) (i:Int):Option Gp:=c.groups.find? fun x=> decide ((x.id:Int)=i)
def Ct.book (c:Ct) (i:Int):Option Bk:=c.books.find? fun x=> decide ((x.id:Int)=i)
def Ct.ungroup (c:Ct) (i:Int):Ct:={c with groups:=c.groups.eraseP fun x=> decide ((x.id:Int)=i)}
def Ct.unmark (c:Ct) (i:Int):Ct:={c with books:=c.books.eraseP fun x=> decide ((x.id:Int)=i)}
def Ct.mark (c:Ct) (i:Int) (seq:Nat):Nat × Ct × Nat:=match c.group i with
 | none=> (42,c,0)
 | some g=> if 8≤c.books.length∨65535≤c.nb then (32,c,0) else (0,{c with nb:=c.nb+1,books:=c.books++ [⟨c.nb+1,seq,g.ms⟩]},c.nb+1)
def Ct.forget (c:Ct) (v:Int):Ct:=
 { c with
   groups:=c.groups.filterMap fun g=> let m:=g.ms.filter fun x=> decide (x≠v);if m= [] then none else some {g with ms:=m}
   books:=c.books.filterMap fun b=> let m:=b.ms.filter fun x=> decide (x≠v);if m= [] then none else some {b with ms:=m}}
def Ct.floor (c:Ct) (now window:Nat):Nat:=if now < window then c.fl else match zjz c.times (now - window) with
 | none=> c.fl
 | some s=> max c.fl s
def zcZ (every lo:Nat):Nat→Nat→List Nat
 | 0,_=> []
 | f+1,n=> if n < lo then [] else if n < every then [n] else n::zcZ every lo f (n - every)
def Ct.keep (c:Ct) (fl every:Nat):List Nat:=
 let more:=if every=0∨fl=0 then [] else zcZ every c.fl 32 ((fl - 1) / every * every)
 let out:=c.kept++more.reverse
 out.drop (out.length - 32)
def Ct.retain (c:Ct) (now window every:Nat):Ct:=
 let fl:=c.floor now window
 let c1:Ct:={c with fl:=fl,kept:=c.keep fl every}
 {c1 with times:=zaZ c1.allL fl c.times,vols:=c.vols.map fun x=> {x with sizes:=za4 (c1.ofL x.id) fl x.sizes}}
end
section
structure Pu where
 b:Nat
 a:Nat
 d:Option (List UInt8)
structure Chg where
 c:Ct
 id:Nat
 vol:Nat
 puts:List Pu
 drop:Nat
 prune:Bool
 seq:Nat
def zdy (d:List UInt8):List UInt8:=d.take 64++List.replicate (64 - d.length) 0
theorem zaK (d:List UInt8):(zdy d).length=64:=by
 unfold zdy;rw [List.length_append,List.length_take,List.length_replicate]
 omega
def zaL (l:List En) (v s a n:Nat):List Pu:=((List.range' a n).filter fun b=> decide (atL l v b s≠0)).map fun b=> ⟨b,0,none⟩
def zcG (l:List En) (v s n:Nat):List Pu:=((List.range n).filter fun b=> decide (atL l v b s≠0)).map fun b=> ⟨b,atL l v b s,none⟩
def zeN (l:List En) (v s size b:Nat):Nat:=if b < size then atL l v b s else 0
def zbw (l:List En) (v s now size many:Nat):List Pu:=((List.range many).filter fun b=> decide (zeN l v s size b≠atL l v b now)).map fun b=> ⟨b,zeN l v s size b,none⟩
def Chg.nil (c:Ct) (s:Nat):Chg:=⟨c,0,0, [],0,false,s⟩
def zb1 (c:Ct) (s:Nat) (o:PO):Nat × Chg:=
 let r:=c.create o.n.toNat s
 (r.1,{Chg.nil c s with c:=r.2.1,id:=r.2.2})
def zbh (c:Ct) (s:Nat) (o:PO):Nat × Chg:=match c.find o.v with
 | none=> (40,Chg.nil c s)
 | some _=> (0,{Chg.nil c s with c:=(c.delete o.v).forget o.v,drop:=o.v.toNat})
def za6 (c:Ct) (l:List En) (s:Nat) (o:PO):Nat × Chg:=match c.find o.v with
 | none=> (40,Chg.nil c s)
 | some x=>
   let r:=zbf x.sizes s o.n.toNat
   if r.1≠0 then (r.1,Chg.nil c s) else (0,{Chg.nil c s with c:=c.resize o.v r.2,vol:=o.v.toNat,puts:=zaL l o.v.toNat (s - 1) o.n.toNat (zas x.sizes - o.n.toNat)})
def zaz (c:Ct) (l:List En) (s:Nat) (o:PO):Nat × Chg:=match c.find o.v with
 | none=> (40,Chg.nil c s)
 | some x=>
   if o.k=5 then
    if zas x.sizes < o.b.toNat+o.n.toNat then (41,Chg.nil c s) else (0,{Chg.nil c s with vol:=o.v.toNat,puts:=zaL l o.v.toNat (s - 1) o.b.toNat o.n.toNat})
   else if zas x.sizes < o.b.toNat+1 then (41,Chg.nil c s) else (0,{Chg.nil c s with vol:=o.v.toNat,puts:= [⟨o.b.toNat,0,some (zdy o.d)⟩]})
def zav (c:Ct) (o:PO):Nat × Nat:=
 if o.k=11 then match c.find o.v with
    | none=> (40,0)
    | some _=> match zjz c.times o.pt.toNat with
      | none=> (44,0)
      | some n=> (0,n)
 else if o.k=12 then match c.book o.i with
    | none=> (43,0)
    | some b=> if o.v ∈ b.ms then (0,b.seq) else (40,0)
 else (0,o.pt.toNat)
def zcO (c:Ct) (l:List En) (s:Nat) (o:PO):Nat × Chg:=
 let p:=zav c o
 if p.1≠0 then (p.1,Chg.nil c s) else
 let z:=c.sizeAt o.v p.2 (s - 1)
 if z.1≠0 then (z.1,Chg.nil c s) else
 let r:=c.create z.2 s
 (r.1,{Chg.nil c s with c:=r.2.1,id:=r.2.2,vol:=r.2.2,puts:=zcG l o.v.toNat p.2 z.2})
def zcW (c:Ct) (l:List En) (s:Nat) (o:PO):Nat × Chg:=
 let z:=c.sizeAt o.v o.pt.toNat (s - 1)
 if z.1≠0 then (z.1,Chg.nil c s) else match c.find o.v with
    | none=> (40,Chg.nil c s)
    | some x=>
      let r:=zbf x.sizes s z.2
      (r.1,{Chg.nil c s with c:=c.resize o.v r.2,vol:=o.v.toNat,puts:=zbw l o.v.toNat o.pt.toNat (s - 1) z.2 (max z.2 (zas x.sizes))})
def zaU (c:Ct) (s:Nat) (r:Nat × Ct × Nat):Nat × Chg:=(r.1,{Chg.nil c s with c:=r.2.1,id:=r.2.2})
def zV (window every:Nat) (c:Ct) (l:List En) (s clock:Nat) (o:PO):Nat × Chg:=
 if o.k=1 then zb1 c s o
 else if o.k=2 then zbh c s o
 else if o.k=3 then za6 c l s o
 else if o.k=4∨o.k=5 then zaz c l s o
 else if o.k=6 then zaU c s (c.add o.m)
 else if o.k=7 then (match c.group o.i with
    | none=> (42,Chg.nil c s)
    | some _=> (0,{Chg.nil c s with c:=c.ungroup o.i}))
 else if o.k=8 then zaU c s (c.mark o.i s)
 else if o.k=9 then (match c.book o.i with
    | none=> (43,Chg.nil c s)
    | some _=> (0,{Chg.nil c s with c:=c.unmark o.i}))
 else if o.k=13 then zcW c l s o
 else if o.k=14 then (0,{Chg.nil c s with c:=c.retain clock window every,prune:=true})
 else zcO c l s o
def zc9 (window every:Nat) (c:Ct) (l:List En) (seq clock:Nat) (o:PO):Nat × Chg:=
 if ¬(1≤o.k∧o.k≤14)∨o.right=false then (10,Chg.nil c seq)
 else if seq=18446744073709551615 then (50,Chg.nil c seq)
 else
    let r:=zV window every c l (seq+1) clock o
    if r.1≠0 then r else
    let t:=za7 r.2.c.times (seq+1) clock
    if t.1≠0 then (t.1,r.2) else (0,{r.2 with c:={r.2.c with times:=t.2}})
def zaP (l:List En) (v s x:Nat) (ps:List Pu):List En:=ps.foldl (fun l p=> zaR l (za9 v p.b s,match p.d with
 | none=> p.a
 | some _=> x)) l
def zaO (c:Ct) (vs:List Vl) (l:List En):List En:=vs.foldl (fun l v=> zao l (zcQ l v.id (c.ofL v.id) c.fl)) l
def zch (g:Chg) (x:Nat) (l:List En):List En:=
 let l1:=zaP l g.vol g.seq x g.puts
 let l2:=if g.drop=0 then l1 else zao l1 (zdE l1 g.drop)
 if g.prune then zaO g.c g.c.vols l2 else l2
end
section
theorem zfE (p:En→Bool):∀{l:List En} {e:En},(∀x:En,x.1=e.1→p x=false)→(zaR l e).filter p=l.filter p
 | [],e,h=> by simp [zaR,h e rfl]
 | x ::l,e,h=> by
   unfold zaR
   split
   ·rw [List.filter_cons,List.filter_cons,zfE p h]
   ·split
    ·rename_i _ h1
     rw [List.filter_cons,List.filter_cons,h e rfl,h x h1];simp
    ·rw [List.filter_cons,h e rfl];simp
theorem zpL {l:List En} (hr:zac l) {k a v b s:Nat} (hb:b < 4294967296) (hs:s < 18446744073709551616) (h:¬(zj k=v∧zo k=b∧zp k≤s)):atL (zaR l (k,a)) v b s=atL l v b s:=by
 rw [zde (zc8 hr) v b s hb hs,zde hr v b s hb hs,zfE (pAt v b s) (fun x hx=> by
  unfold pAt;rw [show x.1=k from hx];exact decide_eq_false h)]
end
end Go.Proofs.YtfldlfladcfggaaGreat
