/- Lemmas of the walks, merged and pressed by press.py. Conditions: those of each theorem. -/
import Derived.RangeFuncNested
import Derived.RangeFuncBound
import Derived.RangeFuncCalls
import Derived.RangeFuncLeaves
import Derived.RangeFuncBox
import Derived.Shelf.RegionOpen
import Derived.WalkKit
import Derived.OwnWalkIn
import Derived.TacticsInMore
import Derived.LoopNIn
import Derived.LoopIn
import Derived.Test.YtfldlfladcfggaaGreatM6
set_option maxRecDepth 100000
set_option maxHeartbeats 64000000
set_option linter.all false
namespace Go.Proofs.YtfldlfladcfggaaGreat
section
open Go.RowKit Go.Shelf
attribute [local go_sem] Oper.semAt_some
def KpA (n₀ B:Nat) (v:Value) (W W':World):Prop:=Below n₀ W W'∧(W.cell? ⟨B,0,none⟩=some v→W'.cell? ⟨B,0,none⟩=some v)
theorem KpA.trans {n₀ B:Nat} {v:Value} {X Y Z:World} (h:KpA n₀ B v X Y) (k:KpA n₀ B v Y Z):KpA n₀ B v X Z:=⟨h.1.trans k.1,fun c=> k.2 (h.2 c)⟩
theorem KpA.book {w:World} {n₀ B:Nat} {v:Value} (hn:n₀≤w.heap.size) (W:World) (l:Nat) (o o':Obj) (hl:w.heap.size≤l) (Gd:W.heap[l]? =some o) (hc:o.isCells=false) (hk:o.isWalk=false):KpA n₀ B v W (W.putObj l o'):=
 ⟨belowK_b hn W l o o' hl Gd hc hk,fun c=> by
  by_cases e:B=l
  ·subst e;simp only [World.cell?,Gd] at c
   cases o <;> simp_all [Obj.isCells]
  ·rw [← c];unfold World.cell?;rw [World.putObj_heap_other e]⟩
def zrA (W:World) (a:Option Addr) (N:Nat) (E:Nat→PO) (D M:Nat→Value):Prop:=
 ∀j,j < N→∃b p,a=some ⟨b,p,none⟩∧∀i x,(zf4 (E j) (D j) (M j))[i]? =some x→W.cell? ⟨b,p+j * 8+i,none⟩=some x
theorem zrA.under {w w':World} {C N:Nat} {a:Option Addr} {E:Nat→PO} {D M:Nat→Value} (h:zrA w a N E D M) (hb:Below C w w') (hC:0 < N→∀x,a=some x→x.block < C):zrA w' a N E D M:=by
 intro j hj;obtain ⟨b,p,ha,hc⟩:=h j hj;exact ⟨b,p,ha,fun i x hx=> (hb.cell (p:=⟨b,p+j * 8+i,none⟩) (show b < C from hC (by omega) _ ha)).trans (hc i x hx)⟩
theorem Ops.rowed {w:World} {a:Option Addr} {n:Nat} {l:List PO} (h:Ops w a n l):∃D M:Nat→Value,(∀j,j < n→zrG w (l.getD j PO.zero) (D j) (M j))∧zrA w a n (fun j=> l.getD j PO.zero) D M:=by
 have yA:∀j,∃q:Value × Value,j < n→zrG w (l.getD j PO.zero) q.1 q.2∧∃b p,a=some ⟨b,p,none⟩∧∀i x,(zf4 (l.getD j PO.zero) q.1 q.2)[i]? =some x→w.cell? ⟨b,p+j * 8+i,none⟩=some x:=by
  intro j
  by_cases hj:j < n
  ·have hl:j < l.length:=by rw [h.1];exact hj
   obtain ⟨b,p,dv,mv,ha,hc,hv⟩:=h.2 j _ (ze hl);have e:l.getD j PO.zero=l[j]:=by simp [List.getD,hl]
   rw [e];exact ⟨(dv,mv),fun _=> ⟨hv,b,p,ha,hc⟩⟩
  ·exact ⟨(.nilFunc, .nilFunc),fun h=> absurd h hj⟩
 obtain ⟨f,hf⟩:=Classical.axiomOfChoice yA;exact ⟨fun j=> (f j).1,fun j=> (f j).2,fun j hj=> (hf j hj).1,fun j hj=> (hf j hj).2⟩
theorem zrA.lt {w:World} {a:Option Addr} {N:Nat} {E:Nat→PO} {D M:Nat→Value} (h:zrA w a N E D M) (h0:0 < N):∀x,a=some x→x.block < w.heap.size:=by
 rintro x rfl;obtain ⟨b,p,ha,hc⟩:=h 0 h0
 cases ha
 exact zb _ _ (hc 0 _ rfl)
def zta (E:Nat→PO) (D M:Nat→Value) (j:Nat):Value:= .agg #[.int .i64 (E j).k, .int .i64 (E j).v, .int .i64 (E j).i, .int .i64 (E j).b, .int .i64 (E j).n, .int .u64 (E j).pt,D j,M j]
theorem zrZ (k:Nat) (hk:3≤k) (l Bn n₀ N cap:Nat) (a:Option Addr) (E:Nat→PO) (D M:Nat→Value) (hN:N≤1000000) (J Jx:List {j:Nat // j < N}→World→Prop)
 (hY:∀pre x W,J pre W→pre.length < N→YieldAt Fence.wide (k - 1) Tryz.prog l #[.int .i64 (x.1:Int),zta E D M x.1] W fun e W'=>
   (e= .returned (.bool true)∧J (pre++ [x]) W'∧KpA n₀ Bn (.slice a N cap) W W')∨(e= .returned (.bool false)∧Jx (pre++ [x]) W'))
 (W:World) (hB:W.cell? ⟨Bn,0,none⟩=some (.slice a N cap)) (Ah:zrA W a N E D M) (Yz:0 < N→∀x,a=some x→x.block < n₀) (h0:J [] W):
 CallsIn Fence.wide k Tryz.prog 38 #[.func (.yield l) #[] #[], .pointer (some ⟨Bn,0,none⟩)] W fun e W'=> (∃v,e= .returned v)∧
  ((∃ys:List {j:Nat // j < N},ys.map (·.1)=(List.range N).reverse∧J ys W')∨(∃pre,True∧Jx pre W')):=by
 have HR:=zh Ah;have HL:=zh Yz;clear Ah Yz;refine callsIn_of_wp Tryz.func38 rfl trivial ?_ rfl;simp only [Tryz.ntmps38,List.size_toArray,List.length_cons,List.length_nil,Nat.reduceAdd,Nat.reduceSub,Array.replicate_succ,Array.replicate_zero,List.push_toArray,List.append_toArray,List.nil_append,List.cons_append]
 gi_wp2
 gi_loopw [3] (fun u3 wr=> ∃(j:Nat) (pre:List {j:Nat // j < N}),j≤N∧u3= .int .i64 ((j:Int) - 1)∧pre.map (·.1)++(List.range j).reverse=(List.range N).reverse∧J pre wr∧KpA n₀ Bn (.slice a N cap) W wr)
  (fun u3 _=> (intOf u3+1).toNat)
 case atStart=> exact ⟨N, [],by omega,by go_num,by simp,h0,Below.refl _ _,fun c=> c⟩
 case round=>
  obtain ⟨j,pre,hj,rfl,Fx,Xe,FO⟩:=hrel
  cases j with
  | succ j=>
    have bO:=FO.2 hB;obtain ⟨b,p,rfl,hc⟩:=(HR.out.under FO.1 HL.out) j (by omega)
    have c0:=hc 0 _ rfl;have c1:=hc 1 _ rfl;have c2:=hc 2 _ rfl;have c3:=hc 3 _ rfl;have c4:=hc 4 _ rfl;have c5:=hc 5 _ rfl;have c6:=hc 6 _ rfl;have c7:=hc 7 _ rfl;rw [Nat.add_zero] at c0;have Ac:pre.length+(j+1)=N:=by
        have:=congrArg List.length Fx
        simpa using this
    obtain ⟨fn,tmps,assign,body,hy,hR⟩:=hY pre ⟨j,by omega⟩ wr Xe (by omega)
    dsimp only [zta] at hy
    have Ix:(pre++ [(⟨j,by omega⟩:{j:Nat // j < N})]).map (·.1)++(List.range j).reverse=(List.range N).reverse:=by
        rw [← Fx,List.range_succ,List.reverse_append,List.map_append];simp
    have HP:=zh Ix;clear hc Fx Ix;have ej:((j+1:Nat):Int) - 1=(j:Int):=by omega
    rw [ej];have MA:(0:Int)≤(j:Int):=by omega
    have EB:(j:Int) < (N:Int):=by omega
    gi_wp2
    refine ⟨fun _=> by omega,hR.mono ?_⟩
    rintro e W3 (⟨rfl,jr,ND⟩ | ⟨rfl,Xf⟩)
    ·gi_wp2
     go_roundw
     case rel=> exact ⟨j,_,by omega,by go_num,HP.out,jr,FO.trans ND⟩
     case measure=> simp [intOf]
    ·gi_wp2
     refine bodyPost_ret (results_none rfl _ _ _) rfl ?_;exact ⟨⟨_,rfl⟩, .inr ⟨_,trivial,Xf⟩⟩
  | zero=>
    gi_wp2
    go_end0;exact ⟨⟨_,rfl⟩, .inl ⟨pre,by simpa using Fx,Xe⟩⟩
theorem zrB (k:Nat) (hk:3≤k) (B N cap:Nat) (a:Option Addr) (E:Nat→PO) (D M:Nat→Value) (hN:N≤1000000) (w:World) (n₀:Nat) (h0:n₀≤w.heap.size) (UP:B < w.heap.size)
 (hB:w.cell? ⟨B,0,none⟩=some (.slice a N cap)) (Ah:zrA w a N E D M) (Yz:0 < N→∀x,a=some x→x.block < n₀):
 SeqStopsK Fence.wide k Tryz.prog 38 #[.pointer (some ⟨B,0,none⟩)] (fun x:{j:Nat // j < N}=> #[Value.int .i64 (x.1:Int),zta E D M x.1]) (KpA n₀ B (.slice a N cap)) (fun ys=> ys.map (·.1)=(List.range N).reverse) (fun _=> True) N w:=fun l J Jx W hW _ _ hY MA=>
 zrZ k hk l B n₀ N cap a E D M hN J Jx hY W ((hW.cell (p:=⟨B,0,none⟩) UP).trans hB) (Ah.under hW (fun RW x hx=> zt (Yz RW x hx) h0)) Yz MA
theorem zrm (a:Option Addr) (len cap:Nat) (w:World):
 Calls Tryz.prog 16 #[.slice a len cap] w fun e w'=> e= .returned (.func (.func 38) #[] #[.pointer (some ⟨w.heap.size,0,none⟩)])∧w'=w.alloc (.cells #[.slice a len cap] 22):=by
 go_enter Tryz.func16,Tryz.ntmps16;go_wp2_with fail;go_ret;exact ⟨rfl,rfl⟩
end
end Go.Proofs.YtfldlfladcfggaaGreat
