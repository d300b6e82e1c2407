/- Lemmas of the walks, merged and pressed by press.py. Conditions: those of each theorem. -/
import Derived.RangeFuncNested
import Derived.RangeFuncBound
import Derived.RangeFuncCalls
import Derived.RangeFuncLeaves
import Derived.Test.YtaoceecfjlkmdaaGreatM1
import Derived.Test.YtaoceecfjlkmdaaGreatM4
import Derived.Test.YtaoceecfjlkmdaaGreatM5
set_option maxRecDepth 100000
set_option maxHeartbeats 64000000
set_option linter.all false
namespace Go.Proofs.YtaoceecfjlkmdaaGreat
section
open Go Go.RowKit
structure zbD (D:Nat→Prop) (W W':World):Prop where
 os:W'.os=W.os
 tape:W'.tape=W.tape
 output:W'.output=W.output
 size:W.heap.size≤W'.heap.size
 block:∀j,D j→W'.heap[j]? =W.heap[j]?
structure zD (D:Nat→Prop) (W W':World):Prop where
 os:W'.os=W.os
 tape:W'.tape=W.tape
 output:W'.output=W.output
 size:W.heap.size≤W'.heap.size
 block:∀j,j < W.heap.size→¬D j→W'.heap[j]? =W.heap[j]?
theorem zbD.refl (D:Nat→Prop) (W:World):zbD D W W:=⟨rfl,rfl,rfl,zl,fun _ _=> rfl⟩
theorem zbD.trans {D:Nat→Prop} {A B C:World} (h:zbD D A B) (k:zbD D B C):zbD D A C:=⟨k.os.trans h.os,k.tape.trans h.tape,k.output.trans h.output,zs h.size k.size,fun j hj=> (k.block j hj).trans (h.block j hj)⟩
theorem zbD.less {D D':Nat→Prop} {A B:World} (h:zbD D A B) (hs:∀j,D' j→D j):zbD D' A B:=⟨h.os,h.tape,h.output,h.size,fun j hj=> h.block j (hs j hj)⟩
theorem zD.refl (D:Nat→Prop) (W:World):zD D W W:=⟨rfl,rfl,rfl,zl,fun _ _ _=> rfl⟩
theorem zD.trans {D D':Nat→Prop} {A B C:World} (h:zD D A B) (k:zD D' B C) (hd:∀j,D' j→D j∨A.heap.size≤j):zD D A C:=
 ⟨k.os.trans h.os,k.tape.trans h.tape,k.output.trans h.output,zs h.size k.size,fun j hj hn=> (k.block j (zt hj h.size) (fun yE=> (hd j yE).elim hn (fun h2=> by omega))).trans (h.block j hj hn)⟩
theorem zD.kept {D E:Nat→Prop} {A B:World} (h:zD D A B) (hE:∀j,E j→j < A.heap.size) (hd:∀j,E j→¬D j):zbD E A B:=⟨h.os,h.tape,h.output,h.size,fun j hj=> h.block j (hE j hj) (hd j hj)⟩
theorem zD.of_grown {D:Nat→Prop} {A B:World} {row:Option Nat} (h:A.grownBy B row) (hr:∀r,row=some r→D r∨A.heap.size≤r):zD D A B:=⟨h.os,h.tape,h.output,h.size,fun j hj hn=> h.block j hj (fun e=> (hr j e.symm).elim hn (fun h2=> by omega))⟩
theorem zD.of_below {D:Nat→Prop} {A B:World} (h:Below A.heap.size A B):zD D A B:=⟨h.os,h.tape,h.output,h.size,fun j hj _=> h.block j hj⟩
theorem zbD.of_below {D:Nat→Prop} {A B:World} (h:Below A.heap.size A B) (hD:∀j,D j→j < A.heap.size):zbD D A B:=⟨h.os,h.tape,h.output,h.size,fun j hj=> h.block j (hD j hj)⟩
def zcL {β:Type} (J:β→(Nat→Prop)→World→Prop):Prop:=∀s D W W',J s D W→zbD D W W'→J s D W'
structure zba (D:Nat→Prop) (W:World) (D':Nat→Prop) (W':World):Prop where
 new:∀j,D' j→D j∨W.heap.size≤j
 lt:∀j,D' j→j < W'.heap.size
theorem zba.trans {D D1 D2:Nat→Prop} {A B C:World} (h:zba D A D1 B) (k:zba D1 B D2 C) (hs:A.heap.size≤B.heap.size):zba D A D2 C:=⟨fun j hj=> (k.new j hj).elim (h.new j) (fun h2=> .inr (by omega)),k.lt⟩
theorem zba.refl {D:Nat→Prop} {W W':World} (h:∀j,D j→j < W.heap.size) (hs:W.heap.size≤W'.heap.size):zba D W D W':=⟨fun _ hj=> .inl hj,fun j hj=> zt (h j hj) hs⟩
def zdF {α:Type} (F:Fence) (n:Nat) (P:Program) (g:Nat) (lb:Array Value) (encs:α→Array Value) (S Sp:List α→Prop) (X:Nat→Prop) (N:Nat) (w:World):Prop:=
 ∀ (l:Nat) (J Jx:List α→(Nat→Prop)→World→Prop) (D0:Nat→Prop) (W:World),zbD X w W→zcL J→zcL Jx→(∀j,D0 j→j < W.heap.size)→(∀j,D0 j→¬X j)→
   (∀pre x D W1,J pre D W1→(∀j,D j→j < W1.heap.size)→zbD X w W1→pre.length < N→Sp (pre++ [x])→YieldAt F (n - 1) P l (encs x) W1 fun e W'=> ∃D',zba D W1 D' W'∧zD D W1 W'∧
     ((e= .returned (.bool true)∧J (pre++ [x]) D' W')∨(e= .returned (.bool false)∧Jx (pre++ [x]) D' W')))→
   J [] D0 W→
   CallsIn F n P g (#[.func (.yield l) #[] #[]]++lb) W fun e W'=> (∃v,e= .returned v)∧∃D',zba D0 W D' W'∧zD D0 W W'∧((∃xs,S xs∧J xs D' W')∨(∃pre,Sp pre∧Jx pre D' W'))
def znh {α:Type} (I:List α→(Nat→Prop)→World→Prop) (Ix:Code→List α→(Nat→Prop)→World→Prop) (xs:List α) (D:Nat→Prop) (W:World):Exit→Act→World→Prop
 | .normal,_,W'=> ∃D',zba D W D' W'∧zD D W W'∧I xs D' W'
 | .ret,_,W'=> ∃D',zba D W D' W'∧zD D W W'∧Ix .ret xs D' W'
 | .exit id,_,W'=> ∃D',zba D W D' W'∧zD D W W'∧Ix (.exit id) xs D' W'
 | .goto t,_,W'=> ∃D',zba D W D' W'∧zD D W W'∧Ix (.goto t) xs D' W'
 | .panic _,_,_=> False
 | .outgrown,_,_=> False
theorem zbN (D:Nat→Prop) (W:World) (l:Nat) (o:Obj) (h:D l):zD D W (W.putObj l o):=zD.of_grown (grownBy_putObj' W l o) (fun r e=> by cases e;exact .inl h)
theorem za1 {D:Nat→Prop} (W:World) (l:Nat) (o:Obj) (h:¬D l) (hlt:∀j,D j→j < W.heap.size):zbD D W (W.putObj l o):=
 ⟨(grownBy_putObj' W l o).os,(grownBy_putObj' W l o).tape,(grownBy_putObj' W l o).output,(grownBy_putObj' W l o).size,fun j hj=> (grownBy_putObj' W l o).block j (hlt j hj) (fun e=> by cases e;exact h hj)⟩
theorem zcD (W:World) (l:Nat) (o:Obj):W.heap.size≤(W.putObj l o).heap.size:=(grownBy_putObj' W l o).size
variable {F:Fence} {n:Nat} {P:Program}
theorem zb6 {α:Type} {g:Operand} {ps:Array Tmp} {assign body:Code} {Q:Exit→Act→World→Prop} {a:Act} {w:World}
 (T3:F.round=none) (h1:1≤n) {gf:Nat} {lb:Array Value} (hg:a.eval g= .func (.func gf) #[] lb) (vT:F.fn gf) (eg:∀args w,(callFunc gf args).run P w= .ok (.enter gf args) w)
 {encs:α→Array Value} {S Sp:List α→Prop} {X:Nat→Prop} {N:Nat} {w0:World} (Jr:zdF F (n - 1) P gf lb encs S Sp X N w0) (hX:zbD X w0 w) (Ck:∀j,X j→j < w.heap.size) (GM:∀x,(encs x).size=ps.size)
 (I:List α→(Nat→Prop)→World→Prop) (Ix:Code→List α→(Nat→Prop)→World→Prop) (I1:List α→α→Act→(Nat→Prop)→World→Prop) (hI:zcL I) (OP:∀c,zcL (Ix c)) (vW:∀pre x a',zcL (fun (_:Unit)=> I1 pre x a'))
 (D0:Nat→Prop) (F7:∀j,D0 j→j < w.heap.size) (Iu:∀j,D0 j→¬X j) (h0:I [] D0 w)
 (hassign:∀(l:Nat) (pre:List α) (x:α) (D:Nat→Prop) (W:World) (K:Act→World→Prop),I pre D W→(∀j,D j→j < W.heap.size)→zbD X w0 W→(∀a' D' W',zba D W D' W'→zD D W W'→I1 pre x a' D' W'→K a' W')→
   assign.wpIn (F.inRound l) (n - 1 - 1) P (Exit.then K (fun _ _ _=> False)) {tmps:=(ps.zip (encs x)).foldl (fun t (p,v)=> t.setIfInBounds p v) a.tmps,defers:= []} W)
 (GA:∀(l:Nat) (pre:List α) (x:α) (a':Act) (D:Nat→Prop) (W:World),w.heap.size≤l→(∃r,W.heap[l]? =some (.loop r))→¬D l→(∀j,D j→j < W.heap.size)→(∀j,D j→¬X j)→zbD X w0 W→I1 pre x a' D W→pre.length < N→Sp (pre++ [x])→body.wpIn (F.inRound l) (n - 1 - 1) P (znh I Ix (pre++ [x]) D W) a' W)
 (SM:∀(Dd:Nat) (xs:List α) (D:Nat→Prop) (W:World),w.heap.size≤Dd→S xs→I xs D W→zba D0 w D W→zD D0 w W→¬D Dd→W.heap[Dd]? =some (.deferred (some []))→Q .normal {a with defers:={target:= .collected Dd,args:=#[]}::a.defers} W)
 (Ub:∀(Dd:Nat) (c:Code) (pre:List α) (D:Nat→Prop) (W:World),w.heap.size≤Dd→Sp pre→Ix c pre D W→zba D0 w D W→zD D0 w W→¬D Dd→W.heap[Dd]? =some (.deferred (some []))→c.wpIn F n P Q {a with defers:={target:= .collected Dd,args:=#[]}::a.defers} W):
 (Code.rangeFunc g ps assign body).wpIn F n P Q a w:=by
 refine wpIn_rangeFunc ?_;intro fn yM;rw [T3];obtain ⟨rec,Fy⟩:∃rec:LoopState→Option Code→Loop,rec=fun st pe=> {state:=st,pending:=pe,fn,tmps:=a.tmps,params:=ps,assign,body,defers:=w.heap.size}:=⟨_,rfl⟩;obtain ⟨W1,R8⟩:∃W1,(w.alloc (.deferred (some []))).alloc (.loop (rec .ready none))=W1:=⟨_,rfl⟩;have yd:W1.heap[w.heap.size+1]? =some (.loop (rec .ready none)):=by
  rw [← R8];have:=World.alloc_heap_new (w.alloc (.deferred (some []))) (.loop (rec .ready none));rwa [World.size_alloc] at this
 have vY:W1.heap[w.heap.size]? =some (.deferred (some [])):=by
  rw [← R8];exact (Below.heap_alloc _ _ _ (by simp)).trans (World.alloc_heap_new w _)
 have Aa:Below w.heap.size w W1:=by
  rw [← R8];exact ((Below.refl _ w).alloc zl _).alloc (by simp) _
 have C6:W1.heap.size=w.heap.size+2:=by rw [← R8];simp
 -- the caller's condition,with the two blocks of book-keeping
 obtain ⟨J,hJ⟩:∃J:(Loop→Prop)→(List α→(Nat→Prop)→World→Prop)→List α→(Nat→Prop)→World→Prop,J=fun R I pre D W=> ∃Di,(∀j,D j↔Di j∨j=w.heap.size∨j=w.heap.size+1)∧I pre Di W∧¬Di w.heap.size∧¬Di (w.heap.size+1)∧zba D0 w Di W∧
  (∃r,R r∧W.heap[w.heap.size+1]? =some (.loop r))∧W.heap[w.heap.size]? =some (.deferred (some [])):=⟨_,rfl⟩
 have RS:∀R I,zcL I→zcL (J R I):=fun R I hI pre D A B h hk=> by
  rw [hJ] at h ⊢;obtain ⟨Di,hD,hi,n1,n2,BN,⟨r,hr,hl⟩,hd⟩:=h;have ae:zbD Di A B:=hk.less (fun j hj=> (hD j).2 (.inl hj));exact ⟨Di,hD,hI _ _ _ _ hi ae,n1,n2,⟨BN.new,fun j hj=> zt (BN.lt j hj) hk.size⟩,⟨r,hr,(hk.block _ ((hD _).2 (.inr (.inr rfl)))).trans hl⟩,(hk.block _ ((hD _).2 (.inr (.inl rfl)))).trans hd⟩
 have hD1lt:∀j,(D0 j∨j=w.heap.size∨j=w.heap.size+1)→j < W1.heap.size:=fun j hj=> by
  rw [C6];rcases hj with h | h | h
  ·have:=F7 j h;omega
  ·omega
  ·omega
 have YJ:¬D0 w.heap.size:=fun h=> by have:=F7 _ h;omega
 have YK:¬D0 (w.heap.size+1):=fun h=> by have:=F7 _ h;omega
 refine ⟨w.heap.size+1, [{target:= .collected w.heap.size,args:=#[]}],W1,{target:= .fn (.func gf) lb,args:=#[.func (.yield (w.heap.size+1)) #[] #[]]},W1,gf,
  #[.func (.yield (w.heap.size+1)) #[] #[]]++lb,W1, ?_, ?_, ?_, ?_,fun _=> h1, ?_⟩
 ·rw [← R8,Fy];exact run_enterLoop_outer _ _ _ _ _
 ·simp only [resolve,hg];simp [go_sem]
 ·intro f' Vi;simp [Target.leads] at Vi;subst Vi;exact vT
 ·simp [invoke,go_sem,eg]
 ·refine (Jr (w.heap.size+1) (J (fun r=> r=rec .ready none) I) (fun pre D W=> ∃c,J (fun r=> r=rec .done (some c)) (Ix c) pre D W) (fun j=> D0 j∨j=w.heap.size∨j=w.heap.size+1) W1
   (hX.trans (zbD.of_below Aa Ck)) (RS _ _ hI) (fun pre D A B h hk=> by obtain ⟨c,hc⟩:=h;exact ⟨c,RS _ _ (OP c) pre D A B hc hk⟩) hD1lt (fun j hj hx=> by
        have:=Ck j hx;rcases hj with h | h | h
        ·exact Iu j h hx
        ·omega
        ·omega) ?_ ?_).mono ?_
  ·-- one round
   intro pre x D W jt DB PA Ac Xr;rw [hJ] at jt;obtain ⟨Di,hD,hi,n1,n2,BN,⟨r,rfl,hl⟩,hd⟩:=jt;have hlt:w.heap.size+1 < W.heap.size:=(zg hl).1;have hy:=run_yield (P:=P) (args:=encs x) hl (by rw [Fy];exact GM x)
   rw [Fy] at hy;refine ⟨fn,_,assign,body,hy,roundIn_of_wpIn yM (hassign _ pre x Di W _ hi (fun j hj=> DB j ((hD j).2 (.inl hj))) PA ?_)⟩;clear hy;intro a' Da Wa DS Lx yS;have na1:¬Da w.heap.size:=fun h=> (DS.new _ h).elim n1 (fun h2=> by omega)
   have na2:¬Da (w.heap.size+1):=fun h=> (DS.new _ h).elim n2 (fun h2=> by omega)
   have KC:Wa.heap[w.heap.size+1]? =some (.loop (rec .ready none)):=(Lx.block _ hlt n2).trans hl;have SJ:Wa.heap[w.heap.size]? =some (.deferred (some [])):=(Lx.block _ (by omega) n1).trans hd
   have YC:w.heap.size+1 < Wa.heap.size:=(zg KC).1;refine ⟨_,run_beginRound KC (by rw [Fy]), ?_⟩
   obtain ⟨Wb,QM⟩:∃Wb,Wa.putObj (w.heap.size+1) (.loop {rec .ready none with state:= .busy})=Wb:=⟨_,rfl⟩
   have KE:Wb.heap[w.heap.size+1]? =some (.loop {rec .ready none with state:= .busy}):=by rw [← QM];exact World.putObj_heap_same YC
   have kj:Wb.heap[w.heap.size]? =some (.deferred (some [])):=by rw [← QM];exact (World.putObj_heap_other (by omega)).trans SJ
   have ED:zbD Da Wa Wb:=by rw [← QM];exact za1 Wa _ _ na2 DS.lt
   have RJ:∀j,Di j→¬X j:=fun j hj hx=> (BN.new j hj).elim (fun h=> Iu j h hx) (fun h=> by have:=Ck j hx;omega)
   have Xx:∀j,X j→j < W.heap.size:=fun j hj=> by have:=Ck j hj;omega
   have W7:∀j,Da j→¬X j:=fun j hj hx=> (DS.new j hj).elim (fun h=> RJ j h hx) (fun h=> by have:=Xx j hx;omega)
   have Yq:zbD X w0 Wa:=PA.trans (Lx.kept Xx (fun j hj hd=> RJ j hd hj));have Yr:zbD X w0 Wb:=by rw [← QM];exact Yq.trans (za1 Wa _ _ (fun h=> by have:=Ck _ h;omega) (fun j hj=> zt (Xx j hj) Lx.size))
   rw [QM];refine wpIn_mono (GA _ pre x a' Da Wb (by omega) ⟨_,KE⟩ na2 (fun j hj=> zt (DS.lt j hj) ED.size) W7 Yr (vW pre x a' () _ _ _ yS ED) Ac Xr) ?_
   -- what a way out of the body leaves
   have fin:∀(jump:Option Code) (D3:Nat→Prop) (W3:World) (Iz:List α→(Nat→Prop)→World→Prop),zcL Iz→zba Da Wb D3 W3→zD Da Wb W3→Iz (pre++ [x]) D3 W3→
    (Instr.endRound (w.heap.size+1) jump).run P W3= .ok (.bool jump.isNone) (W3.putObj (w.heap.size+1) (.loop (rec (if jump.isNone then .ready else .done) jump)))∧
    ∃ D',zba D W D' (W3.putObj (w.heap.size+1) (.loop (rec (if jump.isNone then .ready else .done) jump)))∧zD D W (W3.putObj (w.heap.size+1) (.loop (rec (if jump.isNone then .ready else .done) jump)))∧
      J (fun r=> r=rec (if jump.isNone then .ready else .done) jump) Iz (pre++ [x]) D' (W3.putObj (w.heap.size+1) (.loop (rec (if jump.isNone then .ready else .done) jump))):=fun jump D3 W3 Iz LY AM A6 Jj=> by
        have Gc:W3.heap[w.heap.size+1]? =some (.loop {rec .ready none with state:= .busy}):=(A6.block _ (zg KE).1 na2).trans KE
        have Pj:W3.heap[w.heap.size]? =some (.deferred (some [])):=(A6.block _ (zg kj).1 na1).trans kj;have PJ:=(zg Gc).1;have IN:=(zg KE).1;have m1:¬D3 w.heap.size:=fun h=> (AM.new _ h).elim na1 (fun h2=> by omega)
        have m2:¬D3 (w.heap.size+1):=fun h=> (AM.new _ h).elim na2 (fun h2=> by omega)
        have hr:=run_endRound (P:=P) jump Gc;rw [Fy] at hr ⊢;refine ⟨hr, ?_⟩;rw [← Fy];have Jq:=zcD W3 (w.heap.size+1) (.loop (rec (if jump.isNone then .ready else .done) jump));have Jk:zbD D3 W3 (W3.putObj (w.heap.size+1) (.loop (rec (if jump.isNone then .ready else .done) jump))):=za1 W3 _ _ m2 AM.lt;have VC:W.heap.size≤Wb.heap.size:=zs Lx.size ED.size;have NN:∀j,D3 j→Di j∨W.heap.size≤j:=fun j hj=> (AM.new j hj).elim (fun h=> DS.new j h) (fun h=> .inr (by omega))
        refine ⟨fun j=> D3 j∨j=w.heap.size∨j=w.heap.size+1,⟨fun j hj=> ?_,fun j hj=> ?_⟩, ?_, ?_⟩
        ·rcases hj with h | h
         ·exact (NN j h).elim (fun h2=> .inl ((hD j).2 (.inl h2))) .inr
         ·exact .inl ((hD j).2 (.inr h))
        ·rcases hj with h | h | h
         ·exact zt (AM.lt j h) Jq
         ·omega
         ·omega
        ·have o1:zD D W Wa:=⟨Lx.os,Lx.tape,Lx.output,Lx.size,fun j hj hn=> Lx.block j hj (fun h=> hn ((hD j).2 (.inl h)))⟩;have o2:zD D Wa Wb:=by rw [← QM];exact zbN D Wa _ _ ((hD _).2 (.inr (.inr rfl)))
         have o3:zD (fun j=> Da j) Wb W3:=A6;have o4:zD D W3 (W3.putObj (w.heap.size+1) (.loop (rec (if jump.isNone then .ready else .done) jump))):=zbN D W3 _ _ ((hD _).2 (.inr (.inr rfl)));refine ((o1.trans o2 (fun j hj=> .inl hj)).trans o3 (fun j hj=> ?_)).trans o4 (fun j hj=> .inl hj);exact (DS.new j hj).elim (fun h=> .inl ((hD j).2 (.inl h))) .inr
        ·rw [hJ];exact ⟨D3,fun j=> Iff.rfl,LY _ _ _ _ Jj Jk,m1,m2,⟨fun j hj=> (NN j hj).elim (BN.new j) (fun h=> .inr (by omega)),fun j hj=> zt (AM.lt j hj) Jq⟩,⟨_,rfl,World.putObj_heap_same PJ⟩,(World.putObj_heap_other (by omega)).trans Pj⟩
   rintro e a3 W3 hp
   cases e with
   | normal=>
     obtain ⟨D3,AM,A6,Jj⟩:=hp;obtain ⟨hr,D',q1,q2,q3⟩:=fin none D3 W3 I hI AM A6 Jj;exact ⟨_,_,hr,D',q1,q2, .inl ⟨rfl,q3⟩⟩
   | ret=>
     obtain ⟨D3,AM,A6,Jj⟩:=hp;obtain ⟨hr,D',q1,q2,q3⟩:=fin (some .ret) D3 W3 (Ix .ret) (OP _) AM A6 Jj;exact ⟨_,_,hr,D',q1,q2, .inr ⟨rfl, .ret,q3⟩⟩
   | exit id=>
     obtain ⟨D3,AM,A6,Jj⟩:=hp;obtain ⟨hr,D',q1,q2,q3⟩:=fin (some (.exit id)) D3 W3 (Ix (.exit id)) (OP _) AM A6 Jj;exact ⟨_,_,hr,D',q1,q2, .inr ⟨rfl, .exit id,q3⟩⟩
   | goto t=>
     obtain ⟨D3,AM,A6,Jj⟩:=hp;obtain ⟨hr,D',q1,q2,q3⟩:=fin (some (.goto t)) D3 W3 (Ix (.goto t)) (OP _) AM A6 Jj;exact ⟨_,_,hr,D',q1,q2, .inr ⟨rfl, .goto t,q3⟩⟩
   | panic ch=> exact hp.elim
   | outgrown=> exact hp.elim
  ·rw [hJ];exact ⟨D0,fun j=> Iff.rfl,hI _ _ _ _ h0 (zbD.of_below Aa F7),YJ,YK,⟨fun j hj=> .inl hj,fun j hj=> hD1lt j (.inl hj)⟩,⟨_,rfl,yd⟩,vY⟩
  ·-- behind the iterator
   have out:∀(D':Nat→Prop) (W2:World),zD (fun j=> D0 j∨j=w.heap.size∨j=w.heap.size+1) W1 W2→zD D0 w W2:=fun D' W2 ho=>
        (zD.of_below (D:=D0) Aa).trans ho (fun j hj=> by
          rcases hj with h | h | h
          ·exact .inl h
          ·exact .inr (by omega)
          ·exact .inr (by omega))
   rintro e W2 ⟨⟨v,rfl⟩,D',Cy,A5,(⟨xs,hS,hj⟩ | ⟨pre,Ma,c,hj⟩)⟩
   ·rw [hJ] at hj;obtain ⟨Di,hD,hi,n1,n2,BN,⟨r,rfl,hl⟩,hd⟩:=hj;have AR:=zcD W2 (w.heap.size+1) (.loop {rec .ready none with state:= .exhausted})
    refine ⟨none,_,by have:=run_endLoop (P:=P) hl (by rw [Fy];simp);rw [Fy] at this;exact this, ?_⟩
    refine SM _ xs Di _ zl hS (hI _ _ _ _ hi (za1 W2 _ _ n2 BN.lt)) ⟨BN.new,fun j hj=> zt (BN.lt j hj) (zcD _ _ _)⟩ ((out D' W2 A5).trans (zbN (fun j=> j=w.heap.size+1) W2 _ _ rfl) (fun j hj=> .inr (by omega))) n1 ((World.putObj_heap_other (by omega)).trans hd)
   ·rw [hJ] at hj;obtain ⟨Di,hD,hi,n1,n2,BN,⟨r,rfl,hl⟩,hd⟩:=hj;refine ⟨some c,_,by have:=run_endLoop (P:=P) hl (by rw [Fy];simp);rw [Fy] at this;exact this, ?_⟩
    refine Ub _ c pre Di _ zl Ma (OP c _ _ _ _ hi (za1 W2 _ _ n2 BN.lt)) ⟨BN.new,fun j hj=> zt (BN.lt j hj) (zcD _ _ _)⟩ ((out D' W2 A5).trans (zbN (fun j=> j=w.heap.size+1) W2 _ _ rfl) (fun j hj=> .inr (by omega))) n1 ((World.putObj_heap_other (by omega)).trans hd)
end
section
open Go.RowKit
theorem znZ {p g c:Nat} {mv:Value} {F:List Nat} {w:World} (h:zaI w p g c mv F) (i0 n:Nat) (AD:i0 < F.length) (hn:n≤F.length) (hF:F.length≤100000):
 Calls Tryz.prog 190 #[.iface 243 (.pointer (some ⟨p,0,none⟩)), .int .i64 (i0:Int), .int .i64 (n:Int)] w fun e w'=> (∃v,e= .returned v)∧∃F',F'.Perm F∧zaI w' p g c mv F'∧w.grownBy w' (some g):=by
 have HH:=zh h;have hf:=zoI;have kw:=zmo;clear h;go_enter Tryz.func190,Tryz.ntmps190;go_wp2_with fail
 go_loopw [7] (fun u7 wr=> ∃(j:Nat) (F':List Nat),u7= .int .i64 j∧j < F.length∧F'.Perm F∧zaI wr p g c mv F'∧w.grownBy wr (some g)) (fun u7 _=> F.length - (intOf u7).toNat)
 case atStart=> exact ⟨i0,F,rfl,AD,List.Perm.refl _,HH.out,World.grownBy.refl _ _⟩
 case round=>
  obtain ⟨j,F',rfl,hj,hP,hW,hG⟩:=hrel;have Ac:=zdU hP;have HW:=zh hW;have HG:=zh hG;have HP:=zh hP;have hc:=hW.cell;rw [Ac] at hc;have hv:=zgW p _ wr hc;have s1:IntKind.i64.wrap (2 * (j:Int))=2 * (j:Int):=zw _ (by omega)
  have s2:IntKind.i64.wrap (2 * (j:Int)+1)=((2 * j+1:Nat):Int):=by rw [zw _ (by omega)];omega
  have s4:IntKind.i64.wrap (((2 * j+1:Nat):Int)+1)=((2 * j+1+1:Nat):Int):=by rw [zw _ (by omega)];omega
  obtain ⟨m1,CT⟩:∃m1,m1=2 * j+1+1:=⟨_,rfl⟩;rw [← CT] at s4;obtain ⟨m,hm⟩:∃m,m=2 * j+1:=⟨_,rfl⟩;rw [← hm] at s2 s4 CT;obtain ⟨n0,Ft⟩:∃n0,n0=F.length:=⟨_,rfl⟩;rw [← Ft] at Ac hc hv hj hn AD hF ⊢;have g2:¬((m:Int) < 0):=by omega
  have cd:j < m:=by omega
  have Tw:m < m1:=by omega
  clear hW hG hP Ft hm CT
  by_cases h1:m < n
  ·have g1:¬((n:Int)≤(m:Int)):=by omega
   by_cases h2:m1 < n
   ·have g3:((m1:Int) < (n:Int)):=by omega
    have HL:=zh (zbP HW.out n0 m1 m Ac.symm (by omega) (by omega) (by omega))
    go_wp2_with fail;refine HL.out.mono ?_;rintro e w1 ⟨⟨b,rfl⟩,q1,rfl⟩;have WP:=zh (HW.out.drewN q1);have bB:=zh (zbI HG.out q1);have F9:=WP.out.cell;rw [Ac] at F9;have Ij:=zgW p _ _ F9
    cases b
    ·have Ro:=zh (zbP WP.out n0 m j Ac.symm (by omega) (by omega) (by omega))
     go_wp2_with fail;refine Ro.out.mono ?_;rintro e w2 ⟨⟨b,rfl⟩,q2,rfl⟩;have Hn:=zh (HW.out.drewN (q1+q2));have Ff:=zh (zbI HG.out (q1+q2));have Bd:=Hn.out.cell;rw [Ac] at Bd;have Ef:=zdO p _ _ Bd
     cases b
     ·go_wp2_with fail;go_ret;exact ⟨⟨_,rfl⟩,F',HP.out,Hn.out,Ff.out⟩
     ·have HS:=zh (zbQ Hn.out n0 j m Ac.symm (by omega) (by omega) (by omega))
      go_wp2_with fail;refine HS.out.mono ?_;rintro e w3 ⟨rfl,F2,Hr,Fi,AM⟩;have HR:=zh (zn (Hr.trans HP.out) (zn Fi (Ff.out.trans AM)));clear Hr Fi AM;go_wp2_with fail
      go_roundw
      case rel=> exact ⟨m,F2,rfl,by omega,HR.out.1,HR.out.2.1,HR.out.2.2⟩
      case measure=> simp [intOf];omega
    ·have Ro:=zh (zbP WP.out n0 m1 j Ac.symm (by omega) (by omega) (by omega))
     go_wp2_with fail;refine Ro.out.mono ?_;rintro e w2 ⟨⟨b,rfl⟩,q2,rfl⟩;have Hn:=zh (HW.out.drewN (q1+q2));have Ff:=zh (zbI HG.out (q1+q2));have Bd:=Hn.out.cell;rw [Ac] at Bd;have Ef:=zdO p _ _ Bd
     cases b
     ·go_wp2_with fail;go_ret;exact ⟨⟨_,rfl⟩,F',HP.out,Hn.out,Ff.out⟩
     ·have HS:=zh (zbQ Hn.out n0 j m1 Ac.symm (by omega) (by omega) (by omega))
      go_wp2_with fail;refine HS.out.mono ?_;rintro e w3 ⟨rfl,F2,Hr,Fi,AM⟩;have HR:=zh (zn (Hr.trans HP.out) (zn Fi (Ff.out.trans AM)));clear Hr Fi AM;go_wp2_with fail
      go_roundw
      case rel=> exact ⟨m1,F2,rfl,by omega,HR.out.1,HR.out.2.1,HR.out.2.2⟩
      case measure=> simp [intOf];omega
   ·have g3:¬((m1:Int) < (n:Int)):=by omega
    have Ro:=zh (zbP HW.out n0 m j Ac.symm (by omega) (by omega) (by omega))
    go_wp2_with fail;refine Ro.out.mono ?_;rintro e w2 ⟨⟨b,rfl⟩,q2,rfl⟩;have Hn:=zh (HW.out.drewN q2);have Ff:=zh (zbI HG.out q2);have Bd:=Hn.out.cell;rw [Ac] at Bd;have Ef:=zdO p _ _ Bd
    cases b
    ·go_wp2_with fail;go_ret;exact ⟨⟨_,rfl⟩,F',HP.out,Hn.out,Ff.out⟩
    ·have HS:=zh (zbQ Hn.out n0 j m Ac.symm (by omega) (by omega) (by omega))
     go_wp2_with fail;refine HS.out.mono ?_;rintro e w3 ⟨rfl,F2,Hr,Fi,AM⟩;have HR:=zh (zn (Hr.trans HP.out) (zn Fi (Ff.out.trans AM)));clear Hr Fi AM;go_wp2_with fail
     go_roundw
     case rel=> exact ⟨m,F2,rfl,by omega,HR.out.1,HR.out.2.1,HR.out.2.2⟩
     case measure=> simp [intOf];omega
  ·have g1:((n:Int)≤(m:Int)):=by omega
   clear Ac hv;go_wp2_with fail;go_ret;exact ⟨⟨_,rfl⟩,F',HP.out,HW.out,HG.out⟩
def zbj (w:World) (p:Nat) (v mv:Value) (F:List Nat):Prop:=w.heap[p]? =some (.cells #[v,mv] 212 (0,0))∧w.ownsRow 0 73 1 v F.length (F.map uV)
theorem zbj.row {w:World} {p:Nat} {v mv:Value} {F:List Nat} (h:zbj w p v mv F) (hF:F≠ []):∃g c,v= .slice (some ⟨g,0,none⟩) F.length c∧zaI w p g c mv F:=by
 rcases h.2.2 with ⟨e,h0⟩ | ⟨g,cap,cur,e,h0⟩
 ·exact absurd (List.eq_nil_of_length_eq_zero h0) hF
 ·subst e;exact ⟨g,cap,rfl,h⟩
theorem zbj.ne {w:World} {p:Nat} {v mv:Value} {F:List Nat} (h:zbj w p v mv F):some p≠v.ownBlock:=by
 rcases h.2.2 with ⟨rfl,_⟩ | ⟨g',cap,cur,rfl,_,hh,_⟩
 ·intro e;cases e
 ·intro e
  cases e
  rw [h.1] at hh
  cases hh
theorem zm4 {w:World} {v:Value} {F:List Nat} (h:w.ownsRow 0 73 1 v F.length (F.map uV)) (x:Nat) (hl:F.length≤1000000):
 ∃v' w',(Builtin.append_ #[210,210] 210 #[v, .slice (some ⟨w.heap.size,0,none⟩) 1 1]).run Tryz.prog (w.alloc (.cells #[.int .u32 (x:Int)] 73))= .ok v' w'∧w'.ownsRow 0 73 1 v' (F++ [x]).length ((F++ [x]).map uV)∧w.grownBy w' v.ownBlock∧(v'.ownBlock=v.ownBlock∨∃g,v'.ownBlock=some g∧w.heap.size≤g):=by
 obtain ⟨i0,hi,AG,Ai,Ax⟩:=zW infoU;obtain ⟨v',w',hr,ho,hg,-,AF⟩:=run_append_own_at (P:=Tryz.prog) (w.alloc (.cells #[.int .u32 (x:Int)] 73)) 0 210 210 73 i0 _ 1 4 Tryz.underlying210 hi AG Ai Ax rfl (by decide) v F.length _ (h.alloc _) ⟨w.heap.size,0,none⟩ 1 1 [uV x] rfl (zhB w [uV x] 73) (fun u hu=> by
  simp only [List.mem_singleton] at hu;subst hu
  rfl) (by unfold maxLen;omega) (by omega) (by omega)
 refine ⟨v',w',hr, ?_,zca hg, ?_⟩
 ·rw [List.length_append,List.map_append];exact ho
 ·rcases AF with h | h
  ·exact .inl h
  ·exact .inr ⟨_,h,by simp⟩
theorem zju {w:World} {p:Nat} {v mv:Value} {F:List Nat} (h:zbj w p v mv F) (x:Nat) (hk:F.length≤100000):
 Calls Tryz.prog 255 #[.pointer (some ⟨p,0,none⟩), .iface 73 (.int .u32 (x:Int))] w fun e w'=> e= .returned (.tuple #[])∧(∃g c,zaI w' p g c mv (F++ [x])∧(v.ownBlock=some g∨w.heap.size≤g))∧zD (fun j=> j=p∨v.ownBlock=some j) w w':=by
 have Aj:=h.ne;obtain ⟨h1,h2⟩:=h;have AQ:=(zg h1).1;obtain ⟨v',w1,hr,Af,hg,AF⟩:=zm4 (w:=w.drew) h2 x (by omega)
 have YM:F++ [x]≠ []:=by simp
 have G2:w1.heap[p]? =some (.cells #[v,mv] 212 (0,0)):=(hg.block p AQ Aj).trans h1;have c0:w.cell? ⟨p,0,none⟩=some v:=by simp [World.cell?,h1]
 have c1:w1.cell? ⟨p,0,none⟩=some v:=by simp [World.cell?,G2]
 have f1:w1.frozen? ⟨p,0,none⟩=false:=by simp [World.frozen?,G2]
 have KK:v'.ownBlock≠some p:=fun e=> by
  rcases AF with e2 | ⟨g,e2,JH⟩
  ·exact Aj (e.symm.trans e2)
  ·have:=Option.some.inj (e.symm.trans e2);have hs:w.drew.heap.size=w.heap.size:=rfl
   omega
 have AL:zbj (w1.setCell ⟨p,0,none⟩ v') p v' mv (F++ [x]):=⟨heap_setCell_same w1 p 0 #[v,mv] 212 _ G2,Af.kept (zq w1 ⟨p,0,none⟩ v') (.inr KK)⟩;have Cv:zD (fun j=> j=p∨v.ownBlock=some j) w (w1.setCell ⟨p,0,none⟩ v'):=⟨hg.os,hg.tape,hg.output,by rw [World.size_setCell];exact hg.size,fun j hj hn=> by
  rw [heap_setCell_other w1 ⟨p,0,none⟩ j _ (fun e=> hn (.inl e))];exact hg.block j hj (fun e=> hn (.inr e.symm))⟩
 have has:=zl0 (x:Int) w.drew;obtain ⟨g,c,rfl,hW⟩:=AL.row YM;have hL:(F++ [x]).length=F.length+1:=by simp
 rw [hL] at hW Cv hr;have HF:=zh hW;have HA:=zh AF;have HO:=zh Cv;clear hL h2 Af hg hW AL Cv h1 G2 AF Aj KK;go_enter Tryz.func255,Tryz.ntmps255;go_wp2_with fail
 go_region_law (first | (refine zL (o:=⟨some 11,_,_,_,_,_⟩) rfl _ _ _ _ rfl _ _ rfl rfl hr ?_))
 all_goals
  go_wp2_with fail;go_end0;refine ⟨rfl, ?_,HO.out⟩;refine ⟨g,c,HF.out, ?_⟩;rcases HA.out with e | ⟨g',e,JH⟩
  ·exact .inl e.symm
  ·cases e
   exact .inr JH
theorem zaI.cut {w:World} {p g c:Nat} {mv:Value} {F:List Nat} (h:zaI w p g c mv F):zaI (w.setCell ⟨p,0,none⟩ (.slice (some ⟨g,0,none⟩) (F.length - 1) c)) p g c mv F.dropLast:=by
 have Aj:=h.ne;obtain ⟨h1,h2,h3⟩:=h;have hd:F.dropLast.length=F.length - 1:=List.length_dropLast;refine ⟨by rw [hd];exact heap_setCell_same w p 0 #[.slice (some ⟨g,0,none⟩) F.length c,mv] 212 _ h1,by simp, .inr ?_⟩
 rcases h3 with ⟨e,_⟩ | ⟨g',cap,cur,e,hb,hh,Ge,Ce,Fo,ht⟩
 ·cases e
 ·cases e
  refine ⟨g,c,cur,by rw [hd],hb,by rw [heap_setCell_other w ⟨p,0,none⟩ g _ (fun e=> Aj e.symm)];exact hh,by rw [hd];omega,Ce,Fo, ?_⟩
  rw [Nat.mul_one] at ht ⊢;rw [hd,List.map_dropLast,List.dropLast_eq_take,List.length_map,← ht,List.take_take]
  congr 1
  omega
theorem zlC {w:World} {p g c:Nat} {mv:Value} {F:List Nat} (h:zaI w p g c mv F) (x:Nat) (hx:F[F.length - 1]? =some x) (hk:F.length≤100000):
 Calls Tryz.prog 254 #[.pointer (some ⟨p,0,none⟩)] w fun e w'=> e= .returned (.iface 73 (.int .u32 (x:Int)))∧zaI w' p g c mv F.dropLast∧w.grownBy w' (some p):=by
 have c0:=h.cell;have c1:=h.at hx;have f0:w.frozen? ⟨p,0,none⟩=false:=by simp [World.frozen?,h.1]
 have hlt:=(zi hx).1;have HF:=zh (zn h.cut (zq w ⟨p,0,none⟩ (.slice (some ⟨g,0,none⟩) (F.length - 1) c)));have Ep:F.length≤c:=by
  rcases h.2.2 with ⟨e,_⟩ | ⟨g',cap,cur,e,hb,hh,Ge,_⟩
  ·cases e
  ·cases e;exact Ge
 have s1:IntKind.i64.wrap ((F.length:Int) - 1)=((F.length - 1:Nat):Int):=by rw [zw _ (by omega)];omega
 have hm:F.length - 1 < F.length:=by omega
 have YG:F.length - 1≤c:=by omega
 clear h hx hlt;generalize F.length - 1=m at *;generalize F.length=n at *;have g0:(0:Int)≤(m:Int):=by omega
 have g1:(m:Int) < (n:Int):=by omega
 have g2:(m:Int)≤(c:Int):=by omega
 have g3:¬((m:Int) < 0):=by omega
 go_enter Tryz.func254,Tryz.ntmps254;go_wp2_with fail;go_ret;exact ⟨rfl,HF.out.1,HF.out.2⟩
theorem zD.turn {D:Nat→Prop} {w w':World} {g:Nat} (h:w.grownBy w' (some g)) (hD:D g):zD D w w':=⟨h.os,h.tape,h.output,h.size,fun j hj hn=> h.block j hj (fun e=> hn (by cases e;exact hD))⟩
theorem zew {w:World} {p:Nat} {v mv:Value} {F:List Nat} (h:zbj w p v mv F) (x:Nat) (hk:F.length < 100000):
 Calls Tryz.prog 177 #[.iface 243 (.pointer (some ⟨p,0,none⟩)), .iface 73 (.int .u32 (x:Int))] w fun e w'=> e= .returned (.tuple #[])∧(∃g c F',F'.Perm (F++ [x])∧zaI w' p g c mv F'∧(v.ownBlock=some g∨w.heap.size≤g))∧zD (fun j=> j=p∨v.ownBlock=some j) w w':=by
 have HP:=zh (zju h x (by omega))
 have hi:=zn4 p w;have hf:=zpQ;clear h;go_enter Tryz.func177,Tryz.ntmps177;go_wp2_with fail;refine HP.out.mono ?_;clear HP hi hf;rintro e w2 ⟨rfl,⟨g,c,hF,AF⟩,hO⟩;have hL:(F++ [x]).length=F.length+1:=by simp
 have hc:=hF.cell;have hi:=zmC p _ w2 hc;have hf:=zpP;have HU:=zh (zp1 hF F.length (by omega) (by omega))
 have HF:=zh (zn hF (zn AF hO));rw [hL] at hc hi;have s1:IntKind.i64.wrap (((F.length+1:Nat):Int) - 1)=(F.length:Int):=by rw [zw _ (by omega)];omega
 have s2:IntKind.i64.wrap ((F.length:Int)+1 - 1)=(F.length:Int):=by rw [zw _ (by omega)];omega
 clear hF AF hO hL;go_wp2_with fail;refine (zgw (some ⟨g,0,none⟩) (F.length+1) c w2).mono ?_;rintro e w3 ⟨rfl,rfl⟩;go_wp2_with fail;refine HU.out.mono ?_;rintro e w4 ⟨rfl,F',hP,hW,hg⟩;have HR:=zh (zn hP (zn hW hg));clear hP hW hg;go_wp2_with fail;go_end0;obtain ⟨hF,AF,hO⟩:=HF.out;obtain ⟨hP,hW,hg⟩:=HR.out;refine ⟨rfl,⟨g,c,F',hP,hW,AF⟩,⟨hg.os.trans hO.os,hg.tape.trans hO.tape,hg.output.trans hO.output,zs hO.size hg.size,fun j hj hn=> ?_⟩⟩;rw [hg.block j (zt hj hO.size) (fun e=> by
  rcases AF with e2 | e2
  ·exact hn (.inr (e2.trans e.symm))
  ·have:=Option.some.inj e
   omega)]
 exact hO.block j hj hn
theorem zi0 {w:World} {p g c:Nat} {mv:Value} {F:List Nat} (h:zaI w p g c mv F) (Aj:F≠ []) (hk:F.length < 100000):
 Calls Tryz.prog 146 #[.iface 243 (.pointer (some ⟨p,0,none⟩))] w fun e w'=> ∃(x:Nat) (F':List Nat),e= .returned (.iface 73 (.int .u32 (x:Int)))∧(x::F').Perm F∧zaI w' p g c mv F'∧zD (fun j=> j=p∨j=g) w w':=by
 have hl:0 < F.length:=List.length_pos_iff.2 Aj;have s1:IntKind.i64.wrap ((F.length:Int) - 1)=((F.length - 1:Nat):Int):=by rw [zw _ (by omega)];omega
 have HS:=zh (zbQ h F.length 0 (F.length - 1) rfl hl (by omega) (by omega))
 have hc:=h.cell;have hi:=zmC p _ w hc;have FS:=zdO p _ w hc;have hf:=zpP;have kw:=zmo;clear h;have HK:=zh (zn hl hk);have HM:=zh (show F.length - 1+1=F.length by omega)
 obtain ⟨n,hn⟩:∃n,n=F.length:=⟨_,rfl⟩;obtain ⟨m,hm⟩:∃m,m=F.length - 1:=⟨_,rfl⟩;rw [← hm,← hn] at s1 HS;rw [← hn] at hc hi FS;have HE:=zh (zn hn hm);clear hn hm hl hk Aj;go_enter Tryz.func146,Tryz.ntmps146;go_wp2_with fail;refine (zgw (some ⟨g,0,none⟩) n c w).mono ?_;rintro e w1 ⟨rfl,rfl⟩;go_wp2_with fail;refine HS.out.mono ?_;clear HS hc hi FS;rintro e w2 ⟨rfl,F2,Hr,O1,Cy⟩;have CC:=zdU Hr;have HD:=zh (znZ O1 0 m (by have:=HK.out.1;omega) (by have:=HE.out.2;omega) (by have:=HK.out.2;omega))
 have Hi:=zh (zn Hr (zn O1 Cy));clear Hr O1 Cy CC;go_wp2_with fail;refine HD.out.mono ?_;clear HD;rintro e w3 ⟨⟨vv,rfl⟩,F3,Xm,Fi,AM⟩;have Gc:=zdU Xm;have CC:=zdU Hi.out.1;have Ac:F3.length=F.length:=Gc.trans CC;have KM:F3≠ []:=by
  have:=HK.out.1;intro e;rw [e] at Ac;simp at Ac
  omega
 have hx:F3[F3.length - 1]? =some (F3.getLast KM):=by rw [← List.getLast?_eq_getElem?,List.getLast?_eq_some_getLast KM]
 have HP:=zh (zlC Fi _ hx (by have:=HK.out.2;omega))
 have HX:=zh (List.dropLast_concat_getLast KM);have Jj:=zpe p w3;have yK:=fnPop;have Ir:=zh (zn Xm (zn Fi AM));generalize F3.getLast KM=x at *;clear Xm Fi AM Gc CC Ac hx KM;go_wp2_with fail;refine HP.out.mono ?_;rintro e w4 ⟨rfl,jV,DH⟩;have UH:=zh (zn jV DH);clear jV DH;go_wp2_with fail;go_ret;refine ⟨x,F3.dropLast,rfl, ?_,UH.out.1,(zD.turn Hi.out.2.2 (.inr rfl)).trans ((zD.turn Ir.out.2.2 (.inr rfl)).trans (zD.turn UH.out.2 (.inl rfl)) (fun j hj=> .inl hj)) (fun j hj=> .inl hj)⟩;have h1:=HX.out;have h2:(x::F3.dropLast).Perm F3:=by
  rw [← h1]
  simpa using (List.perm_append_singleton x F3.dropLast).symm
 exact h2.trans (Ir.out.1.trans Hi.out.1)
end
end Go.Proofs.YtaoceecfjlkmdaaGreat
