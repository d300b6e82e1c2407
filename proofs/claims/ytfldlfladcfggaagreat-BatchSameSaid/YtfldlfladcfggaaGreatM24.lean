/- Lemmas of the walks, merged and pressed by press.py. Conditions: those of each theorem. -/
import Derived.RangeFuncNested
import Derived.RangeFuncBound
import Derived.RangeFuncCalls
import Derived.RangeFuncLeaves
import Derived.Shelf.Abstract
import Derived.Shelf.RegionOpen
import Derived.WalkKit
import Derived.OwnWalkIn
import Derived.TacticsInMore
import Derived.LoopNIn
import Derived.LoopIn
import Derived.Deep.RegionHeld3
import Derived.Test.YtfldlfladcfggaaGreatM23
import Derived.Test.YtfldlfladcfggaaGreatM3
set_option maxRecDepth 100000
set_option maxHeartbeats 64000000
set_option linter.all false
namespace Go.Proofs.YtfldlfladcfggaaGreat
section
open Go.RowKit Go.Shelf
attribute [local go_sem] Oper.semAt_some
def zpG {N:Nat} (pre:List {j:Nat // j < N}):Prop:=∃(p:List {j:Nat // j < N}) (x:{j:Nat // j < N}),pre=p++ [x]∧∀y:{j:Nat // j < N},x.1 < y.1→y ∈ p
theorem znT (F:Fence) (n:Nat) (OG:F.fn 211) (T3:F.round=none) (hn:1≤n) (l B n₀ L N cap:Nat) (a:Option Addr) (A:Nat→Int) (V:Nat→Value) (hN:N≤1000000) (ha:0 < N→a=some ⟨L,0,none⟩) (hL:L < n₀) (UP:B < n₀) (J Jx:List {j:Nat // j < N}→World→Prop)
 (hY:∀pre x W,J pre W→pre.length < N→YieldAt F (n - 1) Tryz.prog l #[.int .i64 (x.1:Int), .agg #[.int .i64 (A x.1),V x.1]] W fun e W'=>
   (e= .returned (.bool true)∧J (pre++ [x]) W'∧Below n₀ W W')∨(e= .returned (.bool false)∧Jx (pre++ [x]) W'))
 (W:World) (hB:W.cell? ⟨B,0,none⟩=some (.slice a N cap)) (hc:∀j,j < N→W.cell? ⟨L,j * 2,none⟩=some (.int .i64 (A j))∧W.cell? ⟨L,j * 2+1,none⟩=some (V j)) (h0:J [] W):
 CallsIn F n Tryz.prog 211 #[.func (.yield l) #[] #[], .pointer (some ⟨B,0,none⟩)] W fun e W'=> (∃v,e= .returned v)∧
  ((∃ys,(∀j:{j:Nat // j < N},j ∈ ys)∧J ys W')∨(∃pre,zpG pre∧Jx pre W')):=by
 refine callsIn_of_wp Tryz.func211 rfl OG ?_ T3;simp only [Tryz.ntmps211,List.size_toArray,List.length_cons,List.length_nil,Nat.reduceAdd,Nat.reduceSub,Array.replicate_succ,Array.replicate_zero,List.push_toArray,List.append_toArray,List.nil_append,List.cons_append]
 gi_wp2
 gi_loopw [3] (fun u3 wr=> (∃j:Nat,j < N∧u3= .int .i64 j∧∃pre:List {j:Nat // j < N},pre.length+(j+1)=N∧(∀x:{j:Nat // j < N},j < x.1→x ∈ pre)∧J pre wr∧Below n₀ W wr)∨(u3= .int .i64 (-1)∧∃pre:List {j:Nat // j < N},(∀x,x ∈ pre)∧J pre wr))
  (fun u3 _=> (intOf u3+1).toNat)
 case atStart=>
  by_cases h:N=0
  ·subst h;exact .inr ⟨rfl, [],fun x=> absurd x.2 (by omega),h0⟩
  ·exact .inl ⟨N - 1,by omega,by congr 1;omega, [],by simp;omega,fun x hx=> by have:=x.2;omega,h0,Below.refl _ _⟩
 case round=>
  rcases hrel with ⟨j,hj,rfl,pre,Ac,Cb,Xe,DU⟩ | ⟨rfl,pre,Cb,Xe⟩
  ·have QO:=ha (by omega)
   subst QO;have bO:=(DU.cell (p:=⟨B,0,none⟩) UP).trans hB;have c0:=(DU.cell (p:=⟨L,j * 2,none⟩) hL).trans (hc j hj).1;have c1:=(DU.cell (p:=⟨L,j * 2+1,none⟩) hL).trans (hc j hj).2;obtain ⟨fn,tmps,assign,body,hy,hR⟩:=hY pre ⟨j,hj⟩ wr Xe (by omega)
   dsimp only at hy
   have MA:(0:Int)≤(j:Int):=by omega
   have EB:(j:Int) < (N:Int):=by omega
   gi_wp2
   refine hR.mono ?_;rintro e W3 (⟨rfl,jr,ND⟩ | ⟨rfl,Xf⟩)
   ·gi_wp2
    go_roundw
    case rel=>
     cases j with
     | zero=>
       refine .inr ⟨by go_num,pre++ [⟨0,hj⟩],fun x=> ?_,jr⟩
       by_cases hx:0 < x.1
       ·exact List.mem_append_left _ (Cb x hx)
       ·exact List.mem_append_right _ (by simp;exact Subtype.ext (by show x.1=0;omega))
     | succ j=>
       refine .inl ⟨j,by omega,by go_num,pre++ [⟨j+1,hj⟩],by simp;omega,fun x hx=> ?_,jr,DU.trans ND⟩
       by_cases BB:j+1 < x.1
       ·exact List.mem_append_left _ (Cb x BB)
       ·exact List.mem_append_right _ (by simp;exact Subtype.ext (by show x.1=j+1;omega))
    case measure=> simp [intOf]
   ·gi_wp2
    refine bodyPost_ret (results_none rfl _ _ _) rfl ?_;exact ⟨⟨_,rfl⟩, .inr ⟨_,⟨pre,⟨j,hj⟩,rfl,Cb⟩,Xf⟩⟩
  ·gi_wp2
   go_end0;exact ⟨⟨_,rfl⟩, .inl ⟨pre,Cb,Xe⟩⟩
theorem zkv (F:Fence) (n:Nat) (OG:F.fn 211) (T3:F.round=none) (hn:1≤n) (B L N cap:Nat) (a:Option Addr) (A:Nat→Int) (V:Nat→Value) (hN:N≤1000000) (ha:0 < N→a=some ⟨L,0,none⟩) (w:World) (hL:L < w.heap.size) (UP:B < w.heap.size)
 (hB:w.cell? ⟨B,0,none⟩=some (.slice a N cap)) (hc:∀j,j < N→w.cell? ⟨L,j * 2,none⟩=some (.int .i64 (A j))∧w.cell? ⟨L,j * 2+1,none⟩=some (V j)):
 SeqStopsK F n Tryz.prog 211 #[.pointer (some ⟨B,0,none⟩)] (fun x:{j:Nat // j < N}=> #[Value.int .i64 (x.1:Int), .agg #[.int .i64 (A x.1),V x.1]]) (Below w.heap.size) (fun ys=> ∀j:{j:Nat // j < N},j ∈ ys) zpG N w:=fun l J Jx W hW _ _ hY h0=>
 znT F n OG T3 hn l B w.heap.size L N cap a A V hN ha hL UP J Jx hY W ((hW.cell (p:=⟨B,0,none⟩) UP).trans hB) (fun j hj=> ⟨(hW.cell (p:=⟨L,j * 2,none⟩) hL).trans (hc j hj).1,(hW.cell (p:=⟨L,j * 2+1,none⟩) hL).trans (hc j hj).2⟩) h0
theorem zhx (a:Option Addr) (len cap:Nat) (w:World):
 Calls Tryz.prog 172 #[.slice a len cap] w fun e w'=> e= .returned (.func (.func 211) #[] #[.pointer (some ⟨w.heap.size,0,none⟩)])∧w'=w.alloc (.cells #[.slice a len cap] 106):=by
 go_enter Tryz.func172,Tryz.ntmps172;go_wp2_with fail;go_ret;exact ⟨rfl,rfl⟩
theorem ze7 {B:Nat} {W W':World} (h:Below W.heap.size W W'):KeepsFrom B W W':=⟨h.size,fun k o _ hk _=> by rw [h.block k (zg hk).1];exact hk⟩
theorem ze4 {W W':World} {row:Option Nat} {g:Nat} {t:TypeId} (h:At W g t) (hg:W.grownBy W' row) (hr:∀r,row=some r→∃o:Obj,W.heap[r]? =some o∧o.isCells=false):W'.heap[g]? =W.heap[g]? :=by
 refine hg.block g h.lt ?_;intro e;obtain ⟨o,ho,hc⟩:=hr g e.symm;obtain ⟨arr,h⟩:=h;rw [h] at ho
 cases ho
 cases hc
theorem zp0 (tmps:Array Value) (b c:Nat) (v e:Value) (W:World) (h4:tmps[4]? =some (.pointer (some ⟨b,0,none⟩))) (h5:tmps[5]? =some (.pointer (some ⟨c,0,none⟩))) (q4:W.cell? ⟨b,0,none⟩=some v) (q5:W.cell? ⟨c,0,none⟩=some e):
 (results Tryz.f118 tmps).run Tryz.prog W= .ok (.tuple #[v,e]) W:=by
 simp [results,Tryz.results118,go_sem,h4,h5,q4,q5]
theorem zhy {W:World} {B:Nat} {t:TypeId} {v:Value} (h:Boxed W B t v) (u:Value):Boxed (W.setCell ⟨B,0,none⟩ u) B t u:=heap_setCell_same W B 0 #[v] t u h
theorem ze9 {W:World} {B B':Nat} {t:TypeId} {v:Value} (h:Boxed W B t v) (Aj:B≠B') (u:Value):Boxed (W.setCell ⟨B',0,none⟩ u) B t v:=(Below.heap_setCell _ _ _ _ Aj).trans h
theorem zeP {W:World} {B:Nat} {t:TypeId} {v:Value} (h:Boxed W B t v):At W B t:=⟨_,h⟩
theorem zoL {w:World} {base n g cap:Nat} {l:List UInt8} (h:w.ownsRow base 5 1 (.slice (some ⟨g,0,none⟩) n cap) n (zc l)):At w g 5:=by
 rcases h.2 with ⟨h,_⟩ | ⟨g',cap',cur,he,_,hh,_⟩
 ·cases h
 ·cases he
  exact ⟨cur,hh⟩
theorem zfw {w:World} {base n g cap:Nat} {l:List UInt8} (h:w.ownsRow base 5 1 (.slice (some ⟨g,0,none⟩) n cap) n (zc l)):Bs w (some ⟨g,0,none⟩) n l:=by
 obtain ⟨a,c,he,hb,_⟩:=zmV h
 cases he
 exact hb
theorem zmW {w:World} {base n g cap:Nat} {l:List UInt8} (h:w.ownsRow base 5 1 (.slice (some ⟨g,0,none⟩) n cap) n (zc l)):n≤cap:=by
 obtain ⟨a,c,he,_,hc⟩:=zjh h
 cases he
 exact hc
theorem zko {w W2:World} {g c:Nat} {data:List UInt8} {x y:Value} (q2:Boxed W2 (w.heap.size+1) 25 x) (q3:Boxed W2 (w.heap.size+1+1) 37 y) (AF:At W2 g 5) (Au:Bs W2 (some ⟨g,0,none⟩) 128 data) (hb:Below w.heap.size w W2):
 Boxed ((W2.setCell ⟨w.heap.size+1,0,none⟩ (.slice (some ⟨g,0,none⟩) 128 c)).setCell ⟨w.heap.size+1+1,0,none⟩ (.int .i64 0)) (w.heap.size+1) 25 (.slice (some ⟨g,0,none⟩) 128 c)∧
 Boxed ((W2.setCell ⟨w.heap.size+1,0,none⟩ (.slice (some ⟨g,0,none⟩) 128 c)).setCell ⟨w.heap.size+1+1,0,none⟩ (.int .i64 0)) (w.heap.size+1+1) 37 (.int .i64 0)∧
 At ((W2.setCell ⟨w.heap.size+1,0,none⟩ (.slice (some ⟨g,0,none⟩) 128 c)).setCell ⟨w.heap.size+1+1,0,none⟩ (.int .i64 0)) g 5∧
 Bs ((W2.setCell ⟨w.heap.size+1,0,none⟩ (.slice (some ⟨g,0,none⟩) 128 c)).setCell ⟨w.heap.size+1+1,0,none⟩ (.int .i64 0)) (some ⟨g,0,none⟩) 128 data∧
 Below w.heap.size w ((W2.setCell ⟨w.heap.size+1,0,none⟩ (.slice (some ⟨g,0,none⟩) 128 c)).setCell ⟨w.heap.size+1+1,0,none⟩ (.int .i64 0)):=by
 have n1:g≠w.heap.size+1:=AF.ne (zeP q2) (by decide)
 have n2:g≠w.heap.size+1+1:=AF.ne (zeP q3) (by decide)
 have e1:(W2.setCell ⟨w.heap.size+1,0,none⟩ (.slice (some ⟨g,0,none⟩) 128 c)).heap[g]? =W2.heap[g]? :=Below.heap_setCell _ _ _ _ n1;have e2:((W2.setCell ⟨w.heap.size+1,0,none⟩ (.slice (some ⟨g,0,none⟩) 128 c)).setCell ⟨w.heap.size+1+1,0,none⟩ (.int .i64 0)).heap[g]? =W2.heap[g]? :=(Below.heap_setCell _ _ _ _ n2).trans e1;exact ⟨ze9 (zhy q2 _) (by omega) _,zhy (ze9 q3 (by omega) _) _,AF.heap e2,Bs.heap Au e2,(hb.setCell (p:=⟨w.heap.size+1,0,none⟩) (by simp) _).setCell (p:=⟨w.heap.size+1+1,0,none⟩) (by simp;omega) _⟩
def zfR (late:List (Nat × List UInt8)) (i:Nat):Option (List UInt8):=(late.reverse.find? fun x=> decide (x.1=i)).map (·.2)
def zfD (sure:List (List UInt8)) (late:List (Nat × List UInt8)) (i:Nat):List UInt8:=(zfR late i).getD (sure.getD i [])
def zbp (ys:List Wh):List (Nat × List UInt8):=ys.map fun y=> (y.i,y.s.d)
theorem zlb (late:List (Nat × List UInt8)) (j i:Nat) (d:List UInt8):zfR (late++ [(j,d)]) i=if j=i then some d else zfR late i:=by
 unfold zfR;rw [List.reverse_append];simp only [List.reverse_cons,List.reverse_nil,List.nil_append,List.cons_append,List.find?_cons]
 by_cases h:j=i <;> simp [h]
theorem zla {ys:List Wh} {i:Nat} (h:∀k,k < ys.length→∀y,ys[k]? =some y→y.i≠i):zfR (zbp ys) i=none:=by
 unfold zfR zbp;rw [Option.map_eq_none_iff,List.find?_eq_none];intro x hx;rw [List.mem_reverse] at hx;obtain ⟨y,hy,rfl⟩:=List.mem_map.1 hx;obtain ⟨k,hk⟩:=List.getElem?_of_mem hy;have:=h k (zi hk).1 y hk
 simpa using this
theorem zk9 {ys:List Wh} {i k:Nat} {y:Wh} (hy:ys[k]? =some y) (hi:y.i=i) (h:∀j,k < j→∀z,ys[j]? =some z→z.i≠i):zfR (zbp ys) i=some y.s.d:=by
 have hk:=(zi hy).1;have he:=(zi hy).2;have Gg:ys=ys.take k++ [y]++ys.drop (k+1):=by
  rw [List.append_assoc,List.singleton_append,← he,← List.drop_eq_getElem_cons hk,List.take_append_drop]
 have Lv:(zbp (ys.drop (k+1))).reverse.find? (fun x=> decide (x.1=i))=none:=by
  rw [List.find?_eq_none];intro x hx;rw [List.mem_reverse] at hx;obtain ⟨z,hz,rfl⟩:=List.mem_map.1 hx;obtain ⟨j,hj⟩:=List.getElem?_of_mem hz;rw [List.getElem?_drop] at hj;have:=h _ (by omega) z hj
  simpa using this
 unfold zfR;rw [Gg];unfold zbp at *;rw [List.map_append,List.map_append,List.reverse_append,List.find?_append,Lv,Option.none_or,List.reverse_append,List.find?_append];simp [hi]
def zoF (w:World) (ys:List Wh) (i:Nat) {N:Nat} (c:Code) (pre:List {j:Nat // j < N}) (W:World):Prop:=
 (((c= .ret∧∃(p:List {j:Nat // j < N}) (x:{j:Nat // j < N}) (y:Wh),pre=p++ [x]∧ys[x.1]? =some y∧y.i=i∧∀z ∈ p,(ys.map (·.i))[z.1]? ≠some i)∧Boxed W (w.heap.size+1+1) 37 (.int .i64 0))∧Below w.heap.size w W)∧∃g cc data,(128≤cc∧w.heap.size≤g∧∃x:{j:Nat // j < N},pre.getLast? =some x∧∃y,ys[x.1]? =some y∧y.s.d=data)∧Boxed W (w.heap.size+1) 25 (.slice (some ⟨g,0,none⟩) 128 cc)∧At W g 5∧Bs W (some ⟨g,0,none⟩) 128 data
def zpJ (W0:World) (ys:List Wh) (i:Nat) {N:Nat} (pre:List {j:Nat // j < N}) (W:World):Prop:=
 (∀x ∈ pre,(ys.map (·.i))[x.1]? ≠some i)∧Below W0.heap.size W0 W
theorem zm8 (W0:World) (ys:List Wh) (i N:Nat):OwnFrom W0.heap.size (zpJ W0 ys i (N:=N)):=
 OwnFrom.and (ownFrom_pure _ _) (ownFrom_below zl zl)
theorem zlx (w:World) (ys:List Wh) (i N B:Nat) (hB:w.heap.size≤B) (c:Code):OwnFrom B (zoF w ys i (N:=N) c):=by
 refine OwnFrom.and (OwnFrom.and (OwnFrom.and (ownFrom_pure _ _) (Own.from (boxed_own _ _ _) _)) (ownFrom_below zl hB)) ?_;intro s W W' row ⟨g,cc,data,h1,h2,h3,h4⟩ hg hr;have Ha:∀r,row=some r→∃o:Obj,W.heap[r]? =some o∧o.isCells=false:=fun r e=> (hr r e).2;have e:=ze4 h3 hg Ha;exact ⟨g,cc,data,h1,boxed_own (w.heap.size+1) 25 (fun (_:Unit)=> Value.slice (some ⟨g,0,none⟩) 128 cc) () W W' row h2 hg Ha,h3.heap e,Bs.heap h4 e⟩
theorem zh8 {w W:World} {D g cc:Nat} {data:List UInt8} {tmps:Array Value} (h4:tmps[4]? =some (.pointer (some ⟨w.heap.size+1,0,none⟩))) (h5:tmps[5]? =some (.pointer (some ⟨w.heap.size+1+1,0,none⟩)))
 (Ba:128≤cc) (Ic:w.heap.size≤g) (b2:Boxed W (w.heap.size+1) 25 (.slice (some ⟨g,0,none⟩) 128 cc)) (b3:Boxed W (w.heap.size+1+1) 37 (.int .i64 0)) (AF:At W g 5) (Au:Bs W (some ⟨g,0,none⟩) 128 data) (hB:Below w.heap.size w W) (hD:w.heap.size≤D) (hK:W.heap[D]? =some (.deferred (some []))):
 bodyPostM Fence.wide 6 Tryz.prog Tryz.f118 (fun e w'=> (∃g c,e= .returned (.tuple #[.slice (some ⟨g,0,none⟩) 128 c, .int .i64 0])∧128≤c∧w.heap.size≤g∧Bs w' (some ⟨g,0,none⟩) 128 data)∧Below w.heap.size w w') Exit.ret {tmps:=tmps,defers:= [{target:= .collected D,args:=#[]}]} W:=by
 have hr:∀r,some D=some r→∃o:Obj,W.heap[r]? =some o∧o.isCells=false:=fun r e=> by cases e;exact ⟨_,hK,rfl⟩
 have k2:=ze4 (zeP b2) (grownBy_putObj' W D (.deferred none)) hr;have k3:=ze4 (zeP b3) (grownBy_putObj' W D (.deferred none)) hr;have kg:=ze4 AF (grownBy_putObj' W D (.deferred none)) hr;have c2:(W.putObj D (.deferred none)).cell? ⟨w.heap.size+1,0,none⟩=some (.slice (some ⟨g,0,none⟩) 128 cc):=by rw [zY k2];exact b2.cell
 have c3:(W.putObj D (.deferred none)).cell? ⟨w.heap.size+1+1,0,none⟩=some (.int .i64 0):=by rw [zY k3];exact b3.cell
 refine ⟨by simp, .inl ⟨_,_,rfl,run_takeDeferred hK, ?_⟩⟩
 exact ⟨_,zp0 _ _ _ _ _ _ h4 h5 c2 c3,⟨g,cc,rfl,Ba,Ic,Bs.heap Au kg⟩,hB.trans (belowK_b (w:=w) zl W D _ _ hD hK rfl rfl)⟩
theorem zbC.fn {Q:Nat→Prop} {w:World} {p s:Nat} {lv:Value} {xs:List Sh} {ys:List Wh} {armed:Bool} {left:Int} {D:Nat→Prop} (h:zbC Q w p s lv xs ys armed left D):
 ∃ (a:Option Addr) (cap L:Nat) (A G C:Nat→Nat),lv= .slice a ys.length cap∧L < w.heap.size∧(0 < ys.length→a=some ⟨L,0,none⟩)∧
   ∀j,j < ys.length→∃y,ys[j]? =some y∧A j=y.i∧G j=y.s.g∧C j=y.s.c∧w.cell? ⟨L,j * 2,none⟩=some (.int .i64 (A j:Int))∧w.cell? ⟨L,j * 2+1,none⟩=some (.slice (some ⟨G j,0,none⟩) 128 (C j)):=by
 obtain ⟨a,cap,rfl,hr,Ep,-⟩:=h.late.row zhL;have h0:0 < w.heap.size:=by have:=h.lt p h.self;omega
 by_cases hy:ys.length=0
 ·exact ⟨a,cap,0,fun _=> 0,fun _=> 0,fun _=> 0,rfl,h0,fun h=> by omega,fun j hj=> by omega⟩
 ·rcases zK.cases h.late with ⟨-,e⟩ | ⟨g,cap',e,-,hg,-⟩
  ·rw [e] at hy;exact absurd rfl hy
  ·cases e
   refine ⟨_,cap,g,fun j=> (ys.getD j ⟨0,⟨0,0, []⟩⟩).i,fun j=> (ys.getD j ⟨0,⟨0,0, []⟩⟩).s.g,fun j=> (ys.getD j ⟨0,⟨0,0, []⟩⟩).s.c,rfl,hg,fun _=> rfl,fun j hj=> ?_⟩;have qv:ys[j]? =some ys[j]:=ze hj;have e:ys.getD j ⟨0,⟨0,0, []⟩⟩=ys[j]:=by simp [List.getD,hj]
   obtain ⟨b,o,e1,hc⟩:=hr.2 j _ qv
   cases e1
   have q0:=hc 0 _ rfl;have q1:=hc 1 _ rfl;simp only [Nat.zero_add,Nat.add_zero] at q0 q1;exact ⟨_,qv,by simp only [e],by simp only [e],by simp only [e],by simp only [e];exact q0,by simp only [e];exact q1⟩
theorem zhJ {Q:Nat→Prop} {w:World} {p s:Nat} {lv:Value} {xs:List Sh} {ys:List Wh} {armed:Bool} {left:Int} {D:Nat→Prop} (hd:zbC Q w p s lv xs ys armed left D) {i:Nat} (hi:i < xs.length) (hl:ys.length≤100000):
 Calls Tryz.prog 118 #[.pointer (some ⟨p,0,none⟩), .int .i64 (i:Int)] w fun e w'=> (∃g c,e= .returned (.tuple #[.slice (some ⟨g,0,none⟩) 128 c, .int .i64 0])∧128≤c∧w.heap.size≤g∧Bs w' (some ⟨g,0,none⟩) 128 (zfD (xs.map (·.d)) (zbp ys) i))∧Below w.heap.size w w':=by
 obtain ⟨c0,c1,-,-,-⟩:=hd.reads;obtain ⟨xi,Ea⟩:∃x,xs[i]? =some x:=⟨_,ze hi⟩;have N3:(xs.map (·.d)).getD i []=xi.d:=by simp [List.getD,Ea]
 obtain ⟨a,cap,L,A,G,C,rfl,hL,ha,Mt⟩:=hd.fn;have K7:w.cell? ⟨s,i,none⟩=some (.slice (some ⟨xi.g,0,none⟩) 128 xi.c):=by
  obtain ⟨b,o,e1,hc⟩:=(hd.row.row zfi).2 i xi Ea
  cases e1
  have:=hc 0 _ rfl
  simpa using this
 have kr:=hd.sec xi (zm Ea);have AQ:=hd.lt p hd.self;have Fc:=hd.row.lt;have AD:(0:Int)≤(i:Int):=by omega
 have Bb:(i:Int) < (xs.length:Int):=by omega
 have V2:=zh hd.dat;have HX:=zh (zn kr (zn K7 (zn N3 hl)));obtain ⟨n,hn⟩:∃n,n=xs.length:=⟨_,rfl⟩;obtain ⟨N,hN⟩:∃N,N=ys.length:=⟨_,rfl⟩;rw [← hn] at c0 hi Bb;rw [← hN] at c1 ha Mt;have Ez:=zh (zn hn hN);have QF:N≤100000:=by rw [hN];exact hl
 clear hd Ea N3 K7 kr hn hN hl;refine (callsIn_wide (n:=6)).1 ?_;refine callsIn_of_wp_marks Tryz.func118 rfl trivial ?_ rfl;simp only [Tryz.ntmps118,List.size_toArray,List.length_cons,List.length_nil,Nat.reduceAdd,Nat.reduceSub,Array.replicate_succ,Array.replicate_zero,List.push_toArray,List.append_toArray,List.nil_append,List.cons_append];refine wpIn_wide.2 ?_;go_wp2_with fail;have bA:Boxed (((w.alloc (.cells #[.int .i64 (i:Int)] 3)).alloc (.cells #[.slice none 0 0] 25)).alloc (.cells #[.int .i64 0] 37)) w.heap.size 3 (.int .i64 (i:Int)):=((Boxed.new w 3 _).alloc _).alloc _;have bS:Boxed (((w.alloc (.cells #[.int .i64 (i:Int)] 3)).alloc (.cells #[.slice none 0 0] 25)).alloc (.cells #[.int .i64 0] 37)) (w.heap.size+1) 25 (.slice none 0 0):=by
  have:=(Boxed.new (w.alloc (.cells #[.int .i64 (i:Int)] 3)) 25 (.slice none 0 0)).alloc (.cells #[.int .i64 0] 37)
  simpa using this
 have bE:Boxed (((w.alloc (.cells #[.int .i64 (i:Int)] 3)).alloc (.cells #[.slice none 0 0] 25)).alloc (.cells #[.int .i64 0] 37)) (w.heap.size+1+1) 37 (.int .i64 0):=by
  have:=Boxed.new ((w.alloc (.cells #[.int .i64 (i:Int)] 3)).alloc (.cells #[.slice none 0 0] 25)) 37 (.int .i64 0)
  simpa using this
 have Am:Below w.heap.size w (((w.alloc (.cells #[.int .i64 (i:Int)] 3)).alloc (.cells #[.slice none 0 0] 25)).alloc (.cells #[.int .i64 0] 37)):=(((Below.refl _ w).alloc zl _).alloc (by simp) _).alloc (by simp;omega) _
 have AR:(((w.alloc (.cells #[.int .i64 (i:Int)] 3)).alloc (.cells #[.slice none 0 0] 25)).alloc (.cells #[.int .i64 0] 37)).heap.size=w.heap.size+3:=by simp
 generalize ((w.alloc (.cells #[.int .i64 (i:Int)] 3)).alloc (.cells #[.slice none 0 0] 25)).alloc (.cells #[.int .i64 0] 37)=w3 at *;have d0:w3.cell? ⟨p,0,none⟩=some (.slice (some ⟨s,0,none⟩) n n):=by rw [Am.cell AQ];exact c0
 have d1:w3.cell? ⟨p,1,none⟩=some (.slice a N cap):=by rw [Am.cell AQ];exact c1
 have cA:=bA.cell
 go_quiet (fail)
 rename_i nq _
 have Ar:=below_drewN Am nq;have DF:=below_drewN (Below.refl w3.heap.size w3) nq;have bA4:Boxed (w3.drewN nq) w.heap.size 3 (.int .i64 (i:Int)):=(DF.block _ bA.lt).trans bA;have bS4:Boxed (w3.drewN nq) (w.heap.size+1) 25 (.slice none 0 0):=(DF.block _ bS.lt).trans bS;have bE4:Boxed (w3.drewN nq) (w.heap.size+1+1) 37 (.int .i64 0):=(DF.block _ bE.lt).trans bE;have d0:(w3.drewN nq).cell? ⟨p,0,none⟩=some (.slice (some ⟨s,0,none⟩) n n):=by rw [Ar.cell AQ];exact c0
 have d1:(w3.drewN nq).cell? ⟨p,1,none⟩=some (.slice a N cap):=by rw [Ar.cell AQ];exact c1
 have Zo:w.heap.size+3≤(w3.drewN nq).heap.size:=by have:=DF.size;omega
 generalize w3.drewN nq=w4 at *;clear bA bS bE Am AR DF cA;go_wp2_with fail;refine (zhx a N cap w4).mono ?_;rintro e w5 ⟨rfl,rfl⟩;go_wp2_with fail;have bA5:=bA4.alloc (.cells #[.slice a N cap] 106);have bS5:=bS4.alloc (.cells #[.slice a N cap] 106);have bE5:=bE4.alloc (.cells #[.slice a N cap] 106);have bB5:=(Boxed.new w4 106 (.slice a N cap)).cell;have Ag:=Ar.alloc Ar.size (.cells #[.slice a N cap] 106);have MW:(w4.alloc (.cells #[.slice a N cap] 106)).heap.size=w4.heap.size+1:=by simp
 generalize w4.alloc (.cells #[.slice a N cap] 106)=W0 at *;generalize w4.heap.size=B at *;have SO:∀j,j < N→W0.cell? ⟨L,j * 2,none⟩=some (.int .i64 (A j:Int))∧W0.cell? ⟨L,j * 2+1,none⟩=some (.slice (some ⟨G j,0,none⟩) 128 (C j)):=fun j hj=> by
  obtain ⟨y,-,-,-,-,q0,q1⟩:=Mt j hj;exact ⟨by rw [Ag.cell hL];exact q0,by rw [Ag.cell hL];exact q1⟩
 have V6:Hid (∀j,j < N→∃y,ys[j]? =some y∧A j=y.i∧G j=y.s.g∧C j=y.s.c):=zh (fun j hj=> by
  obtain ⟨y,q1,q2,q3,q4,-⟩:=Mt j hj;exact ⟨y,q1,q2,q3,q4⟩)
 clear bA4 bS4 bE4 d0 d1 Ar Mt;refine wpIn_wide.1 (wpIn_rangeFunc_ownH (n:=6) rfl (by omega) (gf:=211) (lb:=#[.pointer (some ⟨B,0,none⟩)]) rfl trivial (enters_of Tryz.func211 (by kernel_rfl) rfl)
  (zkv Fence.wide (6 - 1) trivial rfl (by omega) B L N cap a (fun j=> (A j:Int)) (fun j=> .slice (some ⟨G j,0,none⟩) 128 (C j)) (by omega) ha W0 (by omega) (by omega) bB5 SO) belowK_t (belowK_b zl) zr (fun _=> rfl)
  (zpJ W0 ys i) (zoF w ys i) (zm8 W0 ys i _) (zlx w ys i _ _ (by omega)) ⟨by simp,Below.refl _ _⟩
  (fun x a' W=> ∃Bx,W0.heap.size≤Bx∧W.heap[Bx]? =some (.cells #[.int .i64 (A x.1:Int), .slice (some ⟨G x.1,0,none⟩) 128 (C x.1)] 237 (0,0))∧a'={tmps:=#[.pointer (some ⟨p,0,none⟩), .int .i64 (i:Int),undef, .pointer (some ⟨w.heap.size,0,none⟩), .pointer (some ⟨w.heap.size+1,0,none⟩), .pointer (some ⟨w.heap.size+1+1,0,none⟩),undef, .pointer (some ⟨Bx,0,none⟩), .int .i64 (i:Int), .bool (decide ((i:Int) < 0)), .bool (decide ((i:Int) < 0)), .int .i64 (i:Int), .pointer (some ⟨p,0,none⟩), .pointer (some ⟨p,0,none⟩), .pointer (some ⟨p,0,none⟩), .slice (some ⟨s,0,none⟩) n n, .int .i64 (n:Int), .bool false, .bool (decide ((i:Int) < 0)), .pointer (some ⟨p,0,none⟩), .pointer (some ⟨p,0,none⟩), .pointer (some ⟨p,1,none⟩), .slice a N cap, .func (.func 211) #[] #[.pointer (some ⟨B,0,none⟩)], .int .i64 (x.1:Int), .agg #[.int .i64 (A x.1:Int), .slice (some ⟨G x.1,0,none⟩) 128 (C x.1)],undef,undef,undef,undef,undef,undef,undef,undef,undef,undef,undef,undef,undef,undef,undef],defers:= []})
  (fun x a' _ X Y row hs hg hr=> by
    obtain ⟨Bx,e1,e2,e3⟩:=hs;exact ⟨Bx,e1,(ze4 (t:=237) ⟨_,e2⟩ hg (fun r e=> (hr r e).2)).trans e2,e3⟩)
  ?assign ?body ?done ?stop)
 case assign=>
  rintro l pre x W K ⟨hp,Gs⟩ hK
  gi_wp2
  exact hK _ _ ((KeepsOthers.alloc _ _).from _) ((Below.refl _ W).alloc Gs.size _) ⟨hp,Gs.alloc Gs.size _⟩ ⟨W.heap.size,Gs.size,heap_alloc_new W _,rfl⟩
 case body=>
  rintro l pre x a' W ce ⟨r,hr⟩ ⟨hp,Gs⟩ ⟨Bx,bQ,bX,rfl⟩ hlt;have b1:Boxed W w.heap.size 3 (.int .i64 (i:Int)):=(Gs.block _ bA5.lt).trans bA5;have b2:Boxed W (w.heap.size+1) 25 (.slice none 0 0):=(Gs.block _ bS5.lt).trans bS5;have b3:Boxed W (w.heap.size+1+1) 37 (.int .i64 0):=(Gs.block _ bE5.lt).trans bE5;have cA:=b1.cell;have cx0:W.cell? ⟨Bx,0,none⟩=some (.int .i64 (A x.1:Int)):=by simp [World.cell?,bX]
  have cx1:W.cell? ⟨Bx,1,none⟩=some (.slice (some ⟨G x.1,0,none⟩) 128 (C x.1)):=by simp [World.cell?,bX]
  obtain ⟨x,Zy⟩:=x;simp only at cx0 cx1 bX ⊢;obtain ⟨y,Lf,LD,qq,qr⟩:=V6.out x Zy;have HY:=zh (zn Lf (zn LD (zn qq qr)));have HP:=zh hp;clear hp Lf LD qq qr;generalize A x=ax at *;generalize G x=gx at *;generalize C x=cx at *
  by_cases Ea:ax=i
  ·subst Ea;have CF:Below w.heap.size w W:=Ag.trans (Gs.mono Ag.size);have kt:=V2.out y (zm HY.out.1);have Au:Bs W (some ⟨gx,0,none⟩) 128 y.s.d:=by rw [HY.out.2.2.1];exact kt.bs.below CF zl
   have AN:=zfd gx 0 128 cx y.s.d W Au (by omega)
   rw [Au.length] at AN;have By:=zh AN;have DQ:=zh CF;clear AN Au CF kt
   gi_wp2_with (refine ⟨trivial, ?_⟩;gi_at_call 144;refine (CallsIn.inRound l (callsIn_wide.2 By.out)).mono ?_;rintro e W2 ⟨v,rfl,A5,Ae⟩;obtain ⟨g,c,rfl⟩:=zdp A5 (by omega);have q2:Boxed W2 (w.heap.size+1) 25 (.slice none 0 0):=(Ae.block _ b2.lt).trans b2;have q3:Boxed W2 (w.heap.size+1+1) 37 (.int .i64 0):=(Ae.block _ b3.lt).trans b3;have c2:=q2.cell;have f2:=q2.frozen;have c3:=q3.cell;have f3:=q3.frozen;have AF:At W2 g 5:=(zoL A5);have Bc:Bs W2 (some ⟨g,0,none⟩) 128 y.s.d:=zfw A5;have Ba:=zmW A5;have Ic:=zs DQ.out.size (World.ownsRow.lt A5 g rfl).1)
   obtain ⟨r2,r3,r4,r5,r6⟩:=zko (c:=c) q2 q3 AF Bc (DQ.out.trans (Ae.mono DQ.out.size));exact ⟨(ze7 Ae).trans (((KeepsOthers.setCell _ _ _).from _).trans ((KeepsOthers.setCell _ _ _).from _)),⟨⟨⟨rfl,pre,⟨x,Zy⟩,y,rfl,HY.out.1,HY.out.2.1.symm,HP.out⟩,r3⟩,r6⟩,g,c,y.s.d,⟨Ba,Ic,⟨x,Zy⟩,List.getLast?_concat ..,y,HY.out.1,rfl⟩,r2,r4,r5⟩
  ·have Aj:((ax:Int)==(i:Int))=false:=by rw [beq_eq_false_iff_ne];omega
   have Rq:=zh Ea;clear Ea
   gi_wp2
   exact ⟨KeepsFrom.refl _ _,Below.refl _ _,fun z hz=> (List.mem_append.1 hz).elim (HP.out z) (fun e=> by
        simp at e;subst e;rw [List.getElem?_map,HY.out.1];simp only [Option.map_some,ne_eq,Option.some.injEq];rw [← HY.out.2.1];exact Rq.out),Gs⟩
 case done=>
  rintro D ys' W hD Bq ⟨hp,Gs⟩ hK;have NO:zfR (zbp ys) i=none:=zla fun k hk z hz=> by
   have:=hp ⟨k,by rw [Ez.out.2];exact hk⟩ (Bq _)
   rw [List.getElem?_map,hz] at this
   simpa using this
  have K1:zfD (xs.map (·.d)) (zbp ys) i=xi.d:=by unfold zfD;rw [NO,Option.getD_none,HX.out.2.2.1]
  have b1:Boxed W w.heap.size 3 (.int .i64 (i:Int)):=(Gs.block _ bA5.lt).trans bA5;have b2:Boxed W (w.heap.size+1) 25 (.slice none 0 0):=(Gs.block _ bS5.lt).trans bS5;have b3:Boxed W (w.heap.size+1+1) 37 (.int .i64 0):=(Gs.block _ bE5.lt).trans bE5;have CF:Below w.heap.size w W:=Ag.trans (Gs.mono Ag.size);have p0:W.cell? ⟨p,0,none⟩=some (.slice (some ⟨s,0,none⟩) n n):=by rw [CF.cell AQ];exact c0
  have LA:W.cell? ⟨s,i,none⟩=some (.slice (some ⟨xi.g,0,none⟩) 128 xi.c):=by rw [CF.cell Fc];exact HX.out.2.1
  have cA:=b1.cell;have Au:Bs W.drew (some ⟨xi.g,0,none⟩) 128 xi.d:=(HX.out.1.bs.below CF zl).below zr.drew zl;have AN:=zfd xi.g 0 128 xi.c xi.d W.drew Au (by omega)
  rw [Au.length] at AN;have By:=zh AN;have DQ:=zh CF;have WF:=zh K1;clear AN Au CF NO K1 hp Bq;go_wp2_with fail;refine wp_region_noPanic ?_
  go_region_with (go_at_call 144;refine By.out.mono ?_;rintro e W2 ⟨v,rfl,A5,Ae⟩;obtain ⟨g,c,rfl⟩:=zdp A5 (by omega);have Mi:Below W.heap.size W W2:=zr.drew.trans Ae;have q2:Boxed W2 (w.heap.size+1) 25 (.slice none 0 0):=(Mi.block _ b2.lt).trans b2;have q3:Boxed W2 (w.heap.size+1+1) 37 (.int .i64 0):=(Mi.block _ b3.lt).trans b3;have c2:=q2.cell;have f2:=q2.frozen;have c3:=q3.cell;have f3:=q3.frozen;have AF:At W2 g 5:=(zoL A5);have Bc:Bs W2 (some ⟨g,0,none⟩) 128 xi.d:=zfw A5;have Ba:=zmW A5;have Ic:w.heap.size≤g:=zs DQ.out.size (World.ownsRow.lt A5 g rfl).1)
  all_goals
   refine NoPanic.normal ?_;go_wp2_with fail;obtain ⟨r2,r3,r4,r5,r6⟩:=zko (c:=c) q2 q3 AF Bc (DQ.out.trans (Mi.mono DQ.out.size));have vZ:W2.heap[D]? =some (.deferred (some [])):=by rw [Mi.block D (zg hK).1];exact hK
   have ya:=(KeepsOthers.setCell (W2.setCell ⟨w.heap.size+1,0,none⟩ (.slice (some ⟨g,0,none⟩) 128 c)) ⟨w.heap.size+1+1,0,none⟩ (.int .i64 0)).same D _ ((KeepsOthers.setCell W2 ⟨w.heap.size+1,0,none⟩ (.slice (some ⟨g,0,none⟩) 128 c)).same D _ vZ rfl) rfl;rw [← WF.out] at r5;exact zh8 rfl rfl Ba Ic r2 r3 r4 r5 r6 (zs Ag.size hD) ya
 case stop=>
  rintro D c pre W hD vP ⟨⟨⟨⟨rfl,p1,x1,y1,NS,Lf,Yl,TJ⟩,b3⟩,Gs⟩,g,cc,data,⟨Ba,Ic,x2,Dw,y2,LD,CP⟩,b2,AF,Au⟩ hK;obtain ⟨p3,x3,KT,Fm⟩:=vP;rw [NS] at KT Dw;obtain ⟨e1,e2⟩:=List.append_inj' KT rfl;simp only [List.cons.injEq,and_true] at e2;subst e1 e2;rw [List.getLast?_concat] at Dw
  cases Dw
  rw [Lf] at LD
  cases LD
  have AY:zfR (zbp ys) i=some y1.s.d:=zk9 Lf Yl fun j hj z hz=> by
   have kI:j < N:=by rw [Ez.out.2];exact (zi hz).1
   have:=TJ ⟨j,kI⟩ (Fm ⟨j,kI⟩ hj);rw [List.getElem?_map,hz] at this
   simpa using this
  have K1:zfD (xs.map (·.d)) (zbp ys) i=data:=by unfold zfD;rw [AY,Option.getD_some,CP]
  rw [← K1] at Au;clear AY K1 CP Lf TJ Fm NS KT
  gi_wp2
  exact zh8 rfl rfl Ba Ic b2 b3 AF Au Gs (zs Ag.size hD) hK
end
section
open Go.RowKit
theorem zdV (a lg:Nat) (ha:1≤a∧a≤4294967295) (hl:lg≤4096) (w:World):
 Calls Tryz.prog 107 #[.int .u32 (a:Int), .int .i64 (lg:Int)] w fun e w'=> e= .returned (.int .i64 ((lg+a+1:Nat):Int))∧w=w':=by
 have h1:IntKind.i64.wrap (a:Int)=a:=zw _ (by omega)
 have h2:IntKind.i64.wrap (2+(lg:Int))=2+lg:=zw _ (by omega)
 have h3:IntKind.i64.wrap (2+(lg:Int)+(a:Int))=2+lg+a:=zw _ (by omega)
 have h4:IntKind.i64.wrap (2+(lg:Int)+(a:Int) - 1)=((lg+a+1:Nat):Int):=by rw [zw _ (by omega)];omega
 go_enter Tryz.func107,Tryz.ntmps107;go_wp2_with fail;go_ret;exact ⟨zjs (by omega),rfl⟩
theorem zg4 {Q:Nat→Prop} {w:World} {p s:Nat} {lv:Value} {xs:List Sh} {ys:List Wh} {armed:Bool} {left:Int} {D:Nat→Prop} (hd:zbC Q w p s lv xs ys armed left D) {a lg:Nat} (ha:1≤a∧a≤4096) (Yy:lg≤4096) (hi:lg+a+1 < xs.length) (hl:ys.length≤100000):
 Calls Tryz.prog 71 #[.agg #[.pointer (some ⟨p,0,none⟩), .int .i64 (lg:Int)], .int .u32 (a:Int)] w fun e w'=> (∃g c,e= .returned (.tuple #[.slice (some ⟨g,0,none⟩) 128 c, .int .i64 0])∧128≤c∧w.heap.size≤g∧Bs w' (some ⟨g,0,none⟩) 128 (zfD (xs.map (·.d)) (zbp ys) (lg+a+1)))∧Below w.heap.size w w':=by
 have Aa:Below w.heap.size w (w.alloc (.cells #[.pointer (some ⟨p,0,none⟩), .int .i64 (lg:Int)] 58)):=zr.alloc zl _;have hX:=heap_alloc_new w (.cells #[.pointer (some ⟨p,0,none⟩), .int .i64 (lg:Int)] 58);obtain ⟨w1,Ab⟩:∃w1,w1=w.alloc (.cells #[.pointer (some ⟨p,0,none⟩), .int .i64 (lg:Int)] 58):=⟨_,rfl⟩;rw [← Ab] at Aa hX;obtain ⟨ix,S7⟩:∃ix,ix=lg+a+1:=⟨_,rfl⟩;have Ex:=zdV a lg (by omega) Yy w1.drew
 rw [← S7] at Ex hi ⊢;have HR:=zh Ex;have HD:=zh (zhJ (hd.below (Aa.drew)) hi hl);have Ak:=zh Aa;have i0:((a:Int)==0)=false:=by rw [beq_eq_false_iff_ne];omega
 have q0:w1.cell? ⟨w.heap.size,0,none⟩=some (.pointer (some ⟨p,0,none⟩)):=cell_of_row w1 _ 0 _ _ _ hX;have q1:w1.cell? ⟨w.heap.size,1,none⟩=some (.int .i64 (lg:Int)):=cell_of_row w1 _ 1 _ _ _ hX;clear hd Aa hX Ex S7;go_enter Tryz.func71,Tryz.ntmps71;go_upto_region 1 with fail;rw [← Ab];clear Ab;go_wp2_with fail
 go_region_held3 (fun W=> W.cell? ⟨w.heap.size,0,none⟩=some (.pointer (some ⟨p,0,none⟩))∧W.cell? ⟨w.heap.size,1,none⟩=some (.int .i64 (lg:Int))) (first | with_reducible exact CJ | go_keep)
  (first
    | (go_at_call 107
       ((with_reducible refine HR.out.mono ?_);rintro e w3 ⟨rfl,rfl⟩))
    | (go_at_call 118
       ((with_reducible refine HD.out.mono ?_);rintro e w3 ⟨⟨g,c,rfl,hc,hg,Au⟩,Am⟩;have CJ:w3.cell? ⟨w.heap.size,0,none⟩=some (.pointer (some ⟨p,0,none⟩))∧w3.cell? ⟨w.heap.size,1,none⟩=some (.int .i64 (lg:Int)):=by (have e3:=Am.block w.heap.size (zb w1 _ q0);exact ⟨(zY e3 0).trans q0,(zY e3 1).trans q1⟩))))
 all_goals
  go_wp2_with fail;go_ret2;exact ⟨⟨g,c,rfl,hc,zs Ak.out.size hg,Au⟩,Ak.out.drew.trans (Am.mono Ak.out.drew.size)⟩
theorem zfV {Q:Nat→Prop} {w:World} {p s:Nat} {lv:Value} {xs:List Sh} {ys:List Wh} {left:Int} {D:Nat→Prop} (hd:zbC Q w p s lv xs ys false left D) (Nd:∀j,D j→Q j) (R1:∀j,Q j→j < w.heap.size) {a lg:Nat} (ha:1≤a∧a≤4096) (Yy:lg≤4096) (hi:lg+a+1 < xs.length) (hl:ys.length≤100000)
 {b o:Nat} (cap:Nat) {data:List UInt8} (hb:Bs w (some ⟨b,o,none⟩) 128 data):
 Calls Tryz.prog 60 #[.agg #[.pointer (some ⟨p,0,none⟩), .int .i64 (lg:Int)], .int .u32 (a:Int), .slice (some ⟨b,o,none⟩) 128 cap] w (WrE Q w p s xs ys (lg+a+1) data left D):=by
 have Aa:Below w.heap.size w (w.alloc (.cells #[.pointer (some ⟨p,0,none⟩), .int .i64 (lg:Int)] 58)):=zr.alloc zl _;have hX:=heap_alloc_new w (.cells #[.pointer (some ⟨p,0,none⟩), .int .i64 (lg:Int)] 58);obtain ⟨w1,Ab⟩:∃w1,w1=w.alloc (.cells #[.pointer (some ⟨p,0,none⟩), .int .i64 (lg:Int)] 58):=⟨_,rfl⟩;rw [← Ab] at Aa hX;obtain ⟨ix,S7⟩:∃ix,ix=lg+a+1:=⟨_,rfl⟩;have Ex:=zdV a lg (by omega) Yy w1.drew
 rw [← S7] at Ex hi ⊢;have HR:=zh Ex;have HW:=zh (zgO (hd.below (Aa.drew)) Nd (fun j hj=> zt (R1 j hj) Aa.drew.size) cap hi hl (hb.below Aa.drew zl));have Ak:=zh (zn Aa (fun j (hj:D j)=> hd.lt j hj));have i0:((a:Int)==0)=false:=by rw [beq_eq_false_iff_ne];omega
 have q0:w1.cell? ⟨w.heap.size,0,none⟩=some (.pointer (some ⟨p,0,none⟩)):=cell_of_row w1 _ 0 _ _ _ hX;have q1:w1.cell? ⟨w.heap.size,1,none⟩=some (.int .i64 (lg:Int)):=cell_of_row w1 _ 1 _ _ _ hX;clear hd Aa hX Nd R1 hb Ex S7;go_enter Tryz.func60,Tryz.ntmps60;go_upto_region 1 with fail;rw [← Ab];clear Ab;go_wp2_with fail
 go_region_held3 (fun W=> W.cell? ⟨w.heap.size,0,none⟩=some (.pointer (some ⟨p,0,none⟩))∧W.cell? ⟨w.heap.size,1,none⟩=some (.int .i64 (lg:Int))) (first | with_reducible exact CJ | go_keep)
  (first
    | (go_at_call 107
       ((with_reducible refine HR.out.mono ?_);rintro e w3 ⟨rfl,rfl⟩))
    | (go_at_call 106
       ((with_reducible refine HW.out.mono ?_);rintro e w3 ⟨lv',y,D',rfl,hy,Pl,BN,KP⟩;have CJ:w3.cell? ⟨w.heap.size,0,none⟩=some (.pointer (some ⟨p,0,none⟩))∧w3.cell? ⟨w.heap.size,1,none⟩=some (.int .i64 (lg:Int)):=by (have e3:=KP.block w.heap.size (zb w1 _ q0) (fun hd=> by have:=Ak.out.2 _ hd;omega);exact ⟨(zY e3 0).trans q0,(zY e3 1).trans q1⟩))))
 all_goals
  go_wp2_with fail;go_ret;have h0:=Ak.out.1.drew;unfold WrE;exact ⟨lv',y,D',rfl,hy,Pl,⟨fun j hj=> (BN.new j hj).imp id fun h=> zs h0.size h,BN.lt⟩,(zD.of_below h0).trans KP fun _ h=> .inl h⟩
end
section
open Go.RowKit
def zhE (n:Nat):Nat:=if n % 2=1 then n / 2 ^^^ 3988292384 else n / 2
def zcU:Nat→Nat→Nat
 | 0,n=> n
 | k+1,n=> zhE (zcU k n)
def zd9 (n:Nat) (c:UInt8):Nat:=zcU 8 (n ^^^ c.toNat)
def zgI (n:Nat) (l:List UInt8):Nat:=l.foldl zd9 n
def zhF (l:List UInt8):Nat:=zgI 4294967295 l ^^^ 4294967295
theorem zl9 {n:Nat} (h:n < 4294967296):zhE n < 4294967296:=by
 unfold zhE
 split
 ·exact Nat.xor_lt_two_pow (n:=32) (by omega) (by omega)
 ·omega
theorem zd8 {n:Nat} (h:n < 4294967296):∀k,zcU k n < 4294967296
 | 0=> h
 | k+1=> zl9 (zd8 h k)
theorem zkA {n:Nat} (c:UInt8) (h:n < 4294967296):zd9 n c < 4294967296:=by
 unfold zd9;exact zd8 (Nat.xor_lt_two_pow (n:=32) (by omega) (by have:=c.toNat_lt;omega)) 8
theorem zgJ:∀(l:List UInt8) {n:Nat},n < 4294967296→zgI n l < 4294967296
 | [],_,h=> h
 | c::l,_,h=> zgJ l (zkA c h)
theorem zgK (l:List UInt8):zhF l < 4294967296:=Nat.xor_lt_two_pow (n:=32) (zgJ l (by omega)) (by omega)
theorem znQ (m:Nat) (h:m < 4294967296):bits .and .u32 (m:Int) 1=((m % 2:Nat):Int):=by
 rw [show (1:Int)=((1:Nat):Int) from rfl,u32_and_nat m 1 h (by omega),Nat.and_one_is_mod]
theorem zmw (m:Nat) (h:m < 4294967296):bits .xor .u32 ((m:Int) / 2) 3988292384=((m / 2 ^^^ 3988292384:Nat):Int):=by
 rw [show (m:Int) / 2=((m / 2:Nat):Int) by omega,show (3988292384:Int)=((3988292384:Nat):Int) from rfl,u32_xor_nat _ _ (by omega) (by omega)]
theorem zoz (n:Nat) (c:UInt8) (w:World) (hn:n < 4294967296):
 Calls Tryz.prog 189 #[.int .u32 (n:Int), .int .u8 (c.toNat:Int)] w fun e w'=> e= .returned (.int .u32 (zd9 n c:Nat))∧w=w':=by
 have Ay:=c.toNat_lt;have hx:=u32_xor_nat n c.toNat hn (by omega)
 have Zv:IntKind.u32.wrap (c.toNat:Int)=c.toNat:=by rw [IntKind.wrap_u32'];omega
 obtain ⟨m0,DT⟩:∃m0,m0=n ^^^ c.toNat:=⟨_,rfl⟩;have hm0l:m0 < 4294967296:=by rw [DT];exact Nat.xor_lt_two_pow (n:=32) (by omega) (by omega)
 have BQ:zd9 n c=zcU 8 m0:=by rw [DT];rfl
 rw [← DT] at hx;rw [BQ];clear BQ DT;go_enter Tryz.func189,Tryz.ntmps189;go_wp2_with fail
 go_loop [0,9] (fun u0 u9=> ∃k:Nat,k≤8∧u9= .int .i64 k∧u0= .int .u32 (zcU k m0:Nat)) (fun _ u9=> 8 - (intOf u9).toNat)
 case atStart=> exact ⟨0,by omega,rfl,rfl⟩
 case round=>
  obtain ⟨k,hk,rfl,rfl⟩:=hrel;have FW:=zd8 hm0l k;have ES:zcU (k+1) m0=zhE (zcU k m0):=rfl
  by_cases hlt:k < 8
  ·generalize zcU k m0=m at *;have h1:=znQ m FW;have h2:=zmw m FW;unfold zhE at ES
   by_cases PV:m % 2=1
   ·rw [if_pos PV] at ES;rw [PV] at h1;have HN:=zh ES;clear ES;go_wp2_with fail;exact ⟨⟨k+1,by omega,by go_num,by rw [HN.out]⟩,by simp [intOf];omega⟩
   ·rw [if_neg PV] at ES;rw [show m % 2=0 by omega] at h1
    have HN:=zh ES;clear ES;go_wp2_with fail;exact ⟨⟨k+1,by omega,by go_num,by rw [HN.out];simp⟩,by simp [intOf];omega⟩
  ·have:k=8:=by omega
   subst this;go_wp2_with fail;go_ret;exact ⟨rfl,rfl⟩
theorem zmU (m:Nat) (h:m < 4294967296):bits .xor .u32 IntKind.u32.max (m:Int)=((m ^^^ 4294967295:Nat):Int):=by
 rw [show IntKind.u32.max=((4294967295:Nat):Int) from rfl,u32_xor_nat _ _ (by omega) h,Nat.xor_comm]
theorem zkB (m:Nat) (l:List UInt8) (k:Nat) (c:UInt8) (hc:l[k]? =some c):zgI m (l.take (k+1))=zd9 (zgI m (l.take k)) c:=by
 rw [List.take_add_one,hc];simp [zgI,List.foldl_append]
theorem zoY (p s:Nat) (a:Option Addr) (n cap:Nat) (l:List UInt8) (w:World) (h:Bs w a n l) (hs:s < 4294967296) (hn:n≤1000000000) (hc:w.cell? ⟨p,0,none⟩=some (.int .u32 (s:Int))) (hf:w.frozen? ⟨p,0,none⟩=false):
 Calls Tryz.prog 141 #[.pointer (some ⟨p,0,none⟩), .slice a n cap] w fun e w'=> (∃v,e= .returned v)∧w'=w.setCell ⟨p,0,none⟩ (.int .u32 (zgI (s ^^^ 4294967295) l ^^^ 4294967295:Nat)):=by
 have h1:=zmU s hs;obtain ⟨m,hm⟩:∃m,m=s ^^^ 4294967295:=⟨_,rfl⟩;have FW:m < 4294967296:=by rw [hm];exact Nat.xor_lt_two_pow (n:=32) (by omega) (by omega)
 rw [← hm] at h1 ⊢;clear hm;have HB:=zh h;have HL:=zh h.length;clear h;go_enter Tryz.func141,Tryz.ntmps141;go_wp2_with fail
 go_loop [4,14] (fun u4 u14=> ∃k:Nat,k≤n∧u14= .int .i64 k∧u4= .int .u32 (zgI m (l.take k):Nat)) (fun _ u14=> n - (intOf u14).toNat)
 case atStart=> exact ⟨0,by omega,rfl,rfl⟩
 case round=>
  obtain ⟨k,hk,rfl,rfl⟩:=hrel;have Fq:=zgJ (l.take k) FW
  by_cases hlt:k < n
  ·obtain ⟨b,o,c,rfl,Ba,GB,_⟩:=Bs.cell HB.out k hlt;have HN:=zh (zkB m l k c Ba);generalize zgI m (l.take k)=g at *;clear Ba;go_wp2_with fail;refine (zoz g c w Fq).mono ?_;rintro e w1 ⟨rfl,rfl⟩;go_wp2_with fail;exact ⟨⟨k+1,by omega,by go_num,by rw [HN.out]⟩,by simp [intOf];omega⟩
  ·have G9:k=n:=by omega
   subst G9;have ht:l.take k=l:=zk (by rw [HL.out];omega)
   rw [ht] at Fq ⊢;have h2:=zmU _ Fq;obtain ⟨g,hg⟩:∃g,g=zgI m l:=⟨_,rfl⟩;rw [← hg] at Fq h2 ⊢;have HG:=zh hg;clear hg ht;go_wp2_with fail;go_end0;exact ⟨⟨_,rfl⟩,by rw [HG.out]⟩
theorem zhG (b o n cap n0:Nat) (a:Option Addr) (l:List UInt8) (w:World) (h:Bs w a n l) (hn:n≤1000000000) (hc:w.cell? ⟨b,o,none⟩=some (.slice a n cap)):
 Calls Tryz.prog 105 #[.slice (some ⟨b,o,none⟩) 1 n0] w fun e w'=> e= .returned (.int .u32 (zhF l:Nat))∧Below w.heap.size w w':=by
 have HB:=zh h;have HC:=zh hc;have E8:b < w.heap.size:=zb w _ hc;have Aq:Below w.heap.size w (w.alloc (.cells #[.int .u32 0] 233)):=zr.alloc zl _;have c0:(w.alloc (.cells #[.int .u32 0] 233)).cell? ⟨w.heap.size,0,none⟩=some (.int .u32 ((0:Nat):Int)):=by simp
 have f0:(w.alloc (.cells #[.int .u32 0] 233)).frozen? ⟨w.heap.size,0,none⟩=false:=by simp
 clear h hc;go_enter Tryz.func105,Tryz.ntmps105;go_wp2_with fail;generalize w.alloc (.cells #[.int .u32 0] 233)=w1 at *
 go_loopw [10] (fun u10 wr=> (u10= .int .i64 0∧wr=w1)∨(u10= .int .i64 1∧wr=w1.setCell ⟨w.heap.size,0,none⟩ (.int .u32 (zhF l:Nat)))) (fun u10 _=> 1 - (intOf u10).toNat)
 case atStart=> exact .inl ⟨rfl,rfl⟩
 case round=>
  rcases hrel with ⟨rfl,rfl⟩ | ⟨rfl,rfl⟩
  ·have hc:wr.cell? ⟨b,o,none⟩=some (.slice a n cap):=by rw [Aq.cell E8];exact HC.out
   have Au:Bs wr a n l:=HB.out.below Aq zl;have Mg:=zoY w.heap.size 0 a n cap l wr Au (by omega) hn c0 f0
   have HA:=zh Mg;clear Au Mg;go_wp2_with fail;refine HA.out.mono ?_;rintro e w2 ⟨⟨v,rfl⟩,rfl⟩;go_wp2_with fail;exact ⟨.inr ⟨rfl,by unfold zhF;rfl⟩,by simp [intOf]⟩
  ·have c1:(w1.setCell ⟨w.heap.size,0,none⟩ (.int .u32 (zhF l:Nat))).cell? ⟨w.heap.size,0,none⟩=some (.int .u32 (zhF l:Nat)):=World.cell?_setCell_same _ _ _ c0;have Aa:Below w.heap.size w (w1.setCell ⟨w.heap.size,0,none⟩ (.int .u32 (zhF l:Nat))):=Aq.setCell zl _;generalize w1.setCell ⟨w.heap.size,0,none⟩ (.int .u32 (zhF l:Nat))=w2 at *
   go_wp2_with go_in
   go_ret;exact ⟨rfl,Aa⟩
end
section
open Go.RowKit
def zbm:List UInt8→Nat
 | []=> 0
 | c::l=> c.toNat+256 * zbm l
theorem zmN (k x:Nat) (h:x < 256 ^ k):zbm (leN k x)=x:=by
 induction k generalizing x with
 | zero=> simp at h;subst h;rfl
 | succ k ih=>
   have h1:leN (k+1) x=UInt8.ofNat x::leN k (x / 256):=by
    unfold leN;rw [List.range_succ_eq_map,List.map_cons,List.map_map]
    congr 1
    ·simp
    ·apply List.map_congr_left
     intro i _;simp only [Function.comp_apply];rw [Nat.pow_succ,Nat.mul_comm,← Nat.div_div_eq_div_mul]
   rw [h1,zbm,ih (x / 256) (by rw [Nat.pow_succ] at h;omega),UInt8.toNat_ofNat']
   omega
theorem zhY:∀(a b:List UInt8),a.length=b.length→zbm a=zbm b→a=b
 | [], [],_,_=> rfl
 | [],_::_,h,_=> by simp at h
 | _::_, [],h,_=> by simp at h
 | c::a,d::b,h,e=> by
   have hc:=c.toNat_lt;have hd:=d.toNat_lt;simp only [zbm] at e;have h1:c.toNat=d.toNat:=by omega
   have h2:zbm a=zbm b:=by omega
   rw [UInt8.toNat_inj.1 h1,zhY a b (by simpa using h) h2]
theorem zgZ:∀(l:List UInt8),zbm l < 256 ^ l.length
 | []=> by simp [zbm]
 | c::l=> by
   have:=zgZ l;have hc:=c.toNat_lt;simp only [zbm,List.length_cons,Nat.pow_succ]
   omega
theorem zlc (l:List UInt8) (c:UInt8):zbm (l++ [c])=zbm l+c.toNat * 256 ^ l.length:=by
 induction l with
 | nil=> simp [zbm]
 | cons d l ih=>
   simp only [List.cons_append,zbm,ih,List.length_cons,Nat.pow_succ];rw [Nat.mul_add,Nat.add_assoc,Nat.mul_comm (256 ^ l.length) 256,← Nat.mul_assoc,← Nat.mul_assoc,Nat.mul_comm 256 c.toNat]
theorem or_le (x c k:Nat) (hk:k < 8) (hx:x < 256 ^ k) (hc:c < 256):bits .or .u64 (x:Int) ((c * 256 ^ k:Nat):Int)=((x+c * 256 ^ k:Nat):Int):=by
 have Gr:(256:Nat) ^ k=2 ^ (8 * k):=by rw [Nat.pow_mul]
 have BO:256 ^ k≤256 ^ 7:=Nat.pow_le_pow_right (by omega) (by omega)
 have H8:c * 256 ^ k < 18446744073709551616:=by
  have h1:c * 256 ^ k≤255 * 256 ^ 7:=Nat.mul_le_mul (by omega) BO
  omega
 rw [u64_or_nat _ _ (by omega) H8]
 congr 1
 rw [Gr] at hx ⊢;have:=Nat.two_pow_add_eq_or_of_lt hx c;rw [Nat.mul_comm c,Nat.or_comm,← this,Nat.add_comm]
theorem zge (a:Option Addr) (n cap:Nat) (l:List UInt8) (w:World) (h:Bs w a n l) (hn:n≤8) (Ep:n≤cap):
 Calls Tryz.prog 173 #[.slice a n cap] w fun e w'=> e= .returned (.int .u64 (zbm l:Nat))∧w=w':=by
 have HL:=zh h.length;have HB:=zh h;clear h;go_enter Tryz.func173,Tryz.ntmps173;go_wp2_with fail
 go_loop [3,12] (fun u3 u12=> ∃k:Nat,k≤n∧u12= .int .i64 k∧u3= .int .u64 (zbm (l.take k):Nat)) (fun _ u12=> n - (intOf u12).toNat)
 case atStart=> exact ⟨0,by omega,rfl,rfl⟩
 case round=>
  obtain ⟨k,hk,rfl,rfl⟩:=hrel
  by_cases hlt:k < n
  ·obtain ⟨b,o,c,rfl,hc,GB,_⟩:=Bs.cell HB.out k hlt;have Ay:=c.toNat_lt;have Ui:(l.take k).length=k:=by rw [List.length_take,HL.out];omega
   have FL:=zgZ (l.take k);have DU:zbm (l.take (k+1))=zbm (l.take k)+c.toNat * 256 ^ k:=by
        rw [List.take_add_one,hc,Option.toList_some,zlc,Ui]
   rw [Ui] at FL;generalize zbm (l.take k)=x at *;have Jo:=or_le x c.toNat k (by omega) FL (by omega)
   have Ab:IntKind.u64.wrap (c.toNat:Int)=c.toNat:=by simp only [IntKind.wrap,IntKind.bits,IntKind.signed];simp;omega
   have hm:IntKind.i64.wrap (8 * (k:Int))=8 * (k:Int):=zw _ (by omega)
   have LA:(0:Int)≤8 * (k:Int):=by omega
   have C6:8 * (k:Int)≤64:=by omega
   have Gr:(256:Nat) ^ k=2 ^ (8 * k):=by rw [Nat.pow_mul]
   have BO:(256:Nat) ^ k≤256 ^ 7:=Nat.pow_le_pow_right (by omega) (by omega)
   have H8:c.toNat * 256 ^ k < 18446744073709551616:=by
        have h1:c.toNat * 256 ^ k≤255 * 256 ^ 7:=Nat.mul_le_mul (by omega) BO
        omega
   have VF:IntKind.u64.wrap ((c.toNat:Int) * 2 ^ (8 * (k:Int)).toNat)=((c.toNat * 256 ^ k:Nat):Int):=by
        rw [show (8 * (k:Int)).toNat=8 * k by omega,Gr]
        have e:((c.toNat:Int) * 2 ^ (8 * k))=((c.toNat * 2 ^ (8 * k):Nat):Int):=by push_cast;rfl
        rw [e];rw [Gr] at H8;generalize c.toNat * 2 ^ (8 * k)=y at *;simp only [IntKind.wrap,IntKind.bits,IntKind.signed];simp;omega
   generalize c.toNat * 256 ^ k=y at *;have HN:=zh DU;clear DU hc Ui FL Gr BO;go_wp2_with fail;exact ⟨⟨k+1,by omega,by go_num,by rw [HN.out];simp⟩,by simp [intOf];omega⟩
  ·have G9:k=n:=by omega
   subst G9;have ht:l.take k=l:=zk (by rw [HL.out];omega)
   rw [ht];go_wp2_with fail;go_ret;exact ⟨rfl,rfl⟩
end
end Go.Proofs.YtfldlfladcfggaaGreat
