/- Lemmas of the walks, merged and pressed by press.py. Conditions: those of each theorem. -/
import Derived.Laws.Rows
import Derived.Test.YtfldlfladcfggaaGreatM2
set_option maxRecDepth 100000
set_option maxHeartbeats 64000000
set_option linter.all false
namespace Go.Proofs.YtfldlfladcfggaaGreat
section
open Go.RowKit
structure zZ (w:World) (q:Nat) (l:List (Nat × Nat)):Prop where
 obj:∃cs:Array Value,w.heap[q]? =some (.cells cs 298 (0,0))∧cs.size=34∧cs[32]? =some (.int .i64 (l.length:Int))∧cs[33]? =some (.int .i64 16)∧
  ∀i x,l[i]? =some x→cs[i * 2]? =some (zv x.1)∧cs[i * 2+1]? =some (.int .i64 (x.2:Int))
 len:l.length≤16
theorem zZ.lt {w:World} {q:Nat} {l:List (Nat × Nat)} (h:zZ w q l):q < w.heap.size:=by
 obtain ⟨cs,e,-⟩:=h.obj;exact (zg e).1
theorem zZ.heap {w w':World} {q:Nat} {l:List (Nat × Nat)} (h:zZ w q l) (hq:w'.heap[q]? =w.heap[q]?):zZ w' q l:=by
 obtain ⟨cs,e,r⟩:=h.obj;exact ⟨⟨cs,by rw [hq];exact e,r⟩,h.len⟩
theorem zZ.reads {w:World} {q:Nat} {l:List (Nat × Nat)} (h:zZ w q l):w.cell? ⟨q,32,none⟩=some (.int .i64 (l.length:Int))∧w.cell? ⟨q,33,none⟩=some (.int .i64 16)∧(∀j,w.frozen? ⟨q,j,none⟩=false)∧
 ∀i x,l[i]? =some x→w.cell? ⟨q,i * 2,none⟩=some (zv x.1)∧w.cell? ⟨q,i * 2+1,none⟩=some (.int .i64 (x.2:Int)):=by
 obtain ⟨cs,e,-,e1,e2,e3⟩:=h.obj;have hc:∀j,w.cell? ⟨q,j,none⟩=cs[j]? :=fun j=> by simp [World.cell?,e]
 exact ⟨by rw [hc,e1],by rw [hc,e2],fun j=> by simp [World.frozen?,e],fun i x hx=> by rw [hc,hc];exact e3 i x hx⟩
theorem zZ.has {w:World} {q:Nat} {l:List (Nat × Nat)} (h:zZ w q l) (j:Nat) (hj:j < 34):∃u,w.cell? ⟨q,j,none⟩=some u:=by
 obtain ⟨cs,e,hs,-⟩:=h.obj;have hc:w.cell? ⟨q,j,none⟩=cs[j]? :=by simp [World.cell?,e]
 exact ⟨cs[j]'(by omega),by rw [hc];exact Array.getElem?_eq_getElem _⟩
theorem zZ.put {w:World} {q:Nat} {l:List (Nat × Nat)} (h:zZ w q l) (hl:l.length < 16) (p i:Nat):
 zZ (((w.setCell ⟨q,l.length * 2,none⟩ (zv p)).setCell ⟨q,l.length * 2+1,none⟩ (.int .i64 (i:Int))).setCell ⟨q,32,none⟩ (.int .i64 ((l.length:Int)+1))) q (l++ [(p,i)])∧
  w.grownBy (((w.setCell ⟨q,l.length * 2,none⟩ (zv p)).setCell ⟨q,l.length * 2+1,none⟩ (.int .i64 (i:Int))).setCell ⟨q,32,none⟩ (.int .i64 ((l.length:Int)+1))) (some q):=by
 obtain ⟨cs,e,hs,e1,e2,e3⟩:=h.obj;refine ⟨⟨⟨_,heap_setCell_same _ q 32 _ _ _ (heap_setCell_same _ q _ _ _ _ (heap_setCell_same w q _ cs _ _ e)),by simp [hs], ?_, ?_,fun j x hx=> ?_⟩,by simp;omega⟩,rfl,rfl,rfl,by simp,fun k _ hk=> ?_⟩
 ·rw [Array.getElem?_setIfInBounds_self_of_lt (by simp [hs])];simp
 ·rw [Array.getElem?_setIfInBounds_ne (by omega),Array.getElem?_setIfInBounds_ne (by omega),Array.getElem?_setIfInBounds_ne (by omega)];exact e2
 ·have hj:j < (l++ [(p,i)]).length:=(zi hx).1;simp at hj
  by_cases FT:j < l.length
  ·rw [List.getElem?_append_left FT] at hx;obtain ⟨h1,h2⟩:=e3 j x hx;refine ⟨?_, ?_⟩
   ·rw [Array.getElem?_setIfInBounds_ne (show 32≠j * 2 by omega),Array.getElem?_setIfInBounds_ne (show l.length * 2+1≠j * 2 by omega),Array.getElem?_setIfInBounds_ne (show l.length * 2≠j * 2 by omega)]
    exact h1
   ·rw [Array.getElem?_setIfInBounds_ne (show 32≠j * 2+1 by omega),Array.getElem?_setIfInBounds_ne (show l.length * 2+1≠j * 2+1 by omega),Array.getElem?_setIfInBounds_ne (show l.length * 2≠j * 2+1 by omega)]
    exact h2
  ·have:j=l.length:=by omega
   subst this;rw [List.getElem?_append_right zl] at hx;simp at hx;subst hx;refine ⟨?_, ?_⟩
   ·rw [Array.getElem?_setIfInBounds_ne (show 32≠l.length * 2 by omega),Array.getElem?_setIfInBounds_ne (show l.length * 2+1≠l.length * 2 by omega),Array.getElem?_setIfInBounds_self_of_lt (by omega)]
   ·rw [Array.getElem?_setIfInBounds_ne (show 32≠l.length * 2+1 by omega),Array.getElem?_setIfInBounds_self_of_lt (by rw [Array.size_setIfInBounds];omega)]
 ·have FU:k≠q:=fun e=> hk (by rw [e])
  rw [heap_setCell_other _ _ k _ FU,heap_setCell_other _ _ k _ FU,heap_setCell_other _ _ k _ FU]
theorem zeF (w:World):
 Calls Tryz.prog 174 #[.int .i64 16] w fun e w'=> e= .returned (zv w.heap.size)∧zZ w' w.heap.size []∧Below w.heap.size w w':=by
 go_enter Tryz.func174,Tryz.ntmps174;go_wp2_with fail;go_ret;refine ⟨rfl,⟨⟨_,heap_alloc_new w _, ?_, ?_, ?_, ?_⟩, ?_⟩,zr.alloc zl _⟩
 ·rfl
 ·rfl
 ·rfl
 ·intro i x hx;simp at hx
 ·simp
theorem zhg {w:World} {q:Nat} {l:List (Nat × Nat)} (h:zZ w q l) (hl:l.length < 16) (p i:Nat):
 Calls Tryz.prog 176 #[zv q, .agg #[zv p, .int .i64 (i:Int)]] w fun e w'=> e= .returned (.bool true)∧zZ w' q (l++ [(p,i)])∧w.grownBy w' (some q):=by
 obtain ⟨c32,c33,cf,-⟩:=h.reads;have hlt:=h.lt;have d32:=zu c32 (.cells #[zv p, .int .i64 (i:Int)] 244);have d33:=zu c33 (.cells #[zv p, .int .i64 (i:Int)] 244);have x0:(w.alloc (.cells #[zv p, .int .i64 (i:Int)] 244)).cell? ⟨w.heap.size,0,none⟩=some (zv p):=by simp
 have x1:(w.alloc (.cells #[zv p, .int .i64 (i:Int)] 244)).cell? ⟨w.heap.size,1,none⟩=some (.int .i64 (i:Int)):=by simp
 have hf:∀j,(w.alloc (.cells #[zv p, .int .i64 (i:Int)] 244)).frozen? ⟨q,j,none⟩=false:=fun j=> by
  have:=(h.heap (w':=w.alloc (.cells #[zv p, .int .i64 (i:Int)] 244)) (Below.heap_alloc _ _ _ hlt)).reads.2.2.1 j;exact this
 have E9:(l.length:Int) < 16:=by omega
 have Aj:((l.length:Int)==16)=false:=by rw [beq_eq_false_iff_ne];omega
 unfold zv at *;generalize Ld:w.alloc (.cells #[.pointer (some ⟨p,0,none⟩), .int .i64 (i:Int)] 244)=wa at *;have My:zZ wa q l:=h.heap (by rw [← Ld];exact Below.heap_alloc _ _ _ hlt)
 have DS:Below w.heap.size w wa:=by rw [← Ld];exact zr.alloc zl _
 obtain ⟨u0,y0⟩:=My.has (l.length * 2) (by omega)
 obtain ⟨u1,y1⟩:=My.has (l.length * 2+1) (by omega)
 have Ab:IntKind.i64.wrap ((l.length:Int)+1)=(l.length:Int)+1:=zw _ (by omega)
 have Cc:=My.put hl p i;unfold zv at Cc;have HP:=zh Cc;have XI:l.length * 2≠32:=by omega
 have XJ:l.length * 2+1≠32:=by omega
 clear h c32 c33 cf My Cc;go_enter Tryz.func176,Tryz.ntmps176;go_wp2_with fail
 go_region
 all_goals
  go_wp2_with fail
  go_region
  all_goals
   go_wp2_with fail;go_ret;refine ⟨rfl,HP.out.1.heap rfl, ?_⟩;have hg:=HP.out.2;exact ⟨hg.os.trans DS.os,hg.tape.trans DS.tape,hg.output.trans DS.output,zs DS.size hg.size,fun k hk Aj=> (hg.block k (zt hk DS.size) Aj).trans (DS.block k hk)⟩
theorem zZ.pre {w:World} {q:Nat} {l:List (Nat × Nat)} {x:Nat × Nat} (h:zZ w q (l++ [x])) (o1 o2:Obj):
 ((((w.setCell ⟨q,32,none⟩ (.int .i64 (l.length:Int))).alloc o1).alloc o2).cell? ⟨q,32,none⟩=some (.int .i64 (l.length:Int))∧(((w.setCell ⟨q,32,none⟩ (.int .i64 (l.length:Int))).alloc o1).alloc o2).cell? ⟨q,l.length * 2,none⟩=some (zv x.1)∧
   (((w.setCell ⟨q,32,none⟩ (.int .i64 (l.length:Int))).alloc o1).alloc o2).cell? ⟨q,l.length * 2+1,none⟩=some (.int .i64 (x.2:Int)))∧∀j,(((w.setCell ⟨q,32,none⟩ (.int .i64 (l.length:Int))).alloc o1).alloc o2).frozen? ⟨q,j,none⟩=false:=by
 obtain ⟨cs,e,hs,e1,e2,e3⟩:=h.obj;have hl:l.length < 16:=by have:=h.len;simp at this;omega
 have hq:=h.lt;have hx:(l++ [x])[l.length]? =some x:=by rw [List.getElem?_append_right zl];simp
 obtain ⟨h1,h2⟩:=e3 l.length x hx;have hh:(((w.setCell ⟨q,32,none⟩ (.int .i64 (l.length:Int))).alloc o1).alloc o2).heap[q]? =some (.cells (cs.setIfInBounds 32 (.int .i64 (l.length:Int))) 298 (0,0)):=by
  rw [Below.heap_alloc _ _ _ (by simp;omega),Below.heap_alloc _ _ _ (by simpa using hq)]
  exact heap_setCell_same w q 32 cs _ _ e
 have hc:∀j,(((w.setCell ⟨q,32,none⟩ (.int .i64 (l.length:Int))).alloc o1).alloc o2).cell? ⟨q,j,none⟩=(cs.setIfInBounds 32 (.int .i64 (l.length:Int)))[j]? :=fun j=> by simp [World.cell?,hh]
 refine ⟨⟨?_, ?_, ?_⟩,fun j=> by simp [World.frozen?,hh]⟩
 ·rw [hc,Array.getElem?_setIfInBounds_self_of_lt (by omega)]
 ·rw [hc,Array.getElem?_setIfInBounds_ne (by omega)];exact h1
 ·rw [hc,Array.getElem?_setIfInBounds_ne (by omega)];exact h2
theorem zZ.post {w:World} {q:Nat} {l:List (Nat × Nat)} {x:Nat × Nat} (h:zZ w q (l++ [x])) (o1 o2:Obj):
 ∃ cs5:Array Value,(((w.setCell ⟨q,32,none⟩ (.int .i64 (l.length:Int))).alloc o1).alloc o2).heap[q]? =some (.cells cs5 298 (0,0))∧cs5.size=34∧
   (∀W':World,W'.heap[q]? =some (.cells cs5 298 (0,0))→W'.cell? ⟨q,32,none⟩=some (.int .i64 (l.length:Int))∧(∃u,W'.cell? ⟨q,l.length * 2,none⟩=some u)∧(∃u,W'.cell? ⟨q,l.length * 2+1,none⟩=some u)∧∀j,W'.frozen? ⟨q,j,none⟩=false)∧
   ∀W':World,W'.heap[q]? =some (.cells ((cs5.setIfInBounds (l.length * 2) (.pointer none)).setIfInBounds (l.length * 2+1) (.int .i64 0)) 298 (0,0))→zZ W' q l:=by
 obtain ⟨cs,e,hs,e1,e2,e3⟩:=h.obj;have hl:l.length < 16:=by have:=h.len;simp at this;omega
 have hq:=h.lt;refine ⟨cs.setIfInBounds 32 (.int .i64 (l.length:Int)), ?_,by simp [hs],fun W' Mb=> ?_,fun W' Mb=> ⟨⟨_,Mb,by simp [hs], ?_, ?_,fun j y hy=> ?_⟩,by omega⟩⟩
 ·rw [Below.heap_alloc _ _ _ (by simp;omega),Below.heap_alloc _ _ _ (by simpa using hq)]
  exact heap_setCell_same w q 32 cs _ _ e
 ·have hc:∀j,W'.cell? ⟨q,j,none⟩=(cs.setIfInBounds 32 (.int .i64 (l.length:Int)))[j]? :=fun j=> by simp [World.cell?,Mb]
  refine ⟨?_, ?_, ?_,fun j=> by simp [World.frozen?,Mb]⟩
  ·rw [hc,Array.getElem?_setIfInBounds_self_of_lt (by omega)]
  ·exact ⟨_,(hc _).trans (Array.getElem?_eq_getElem (by rw [Array.size_setIfInBounds];omega))⟩
  ·exact ⟨_,(hc _).trans (Array.getElem?_eq_getElem (by rw [Array.size_setIfInBounds];omega))⟩
 ·rw [Array.getElem?_setIfInBounds_ne (by omega),Array.getElem?_setIfInBounds_ne (by omega),Array.getElem?_setIfInBounds_self_of_lt (by omega)]
 ·rw [Array.getElem?_setIfInBounds_ne (by omega),Array.getElem?_setIfInBounds_ne (by omega),Array.getElem?_setIfInBounds_ne (by omega)];exact e2
 ·have hj:j < l.length:=(zi hy).1;obtain ⟨h1,h2⟩:=e3 j y (by rw [List.getElem?_append_left hj];exact hy)
  refine ⟨?_, ?_⟩
  ·rw [Array.getElem?_setIfInBounds_ne (show l.length * 2+1≠j * 2 by omega),Array.getElem?_setIfInBounds_ne (show l.length * 2≠j * 2 by omega),Array.getElem?_setIfInBounds_ne (show 32≠j * 2 by omega)]
   exact h1
  ·rw [Array.getElem?_setIfInBounds_ne (show l.length * 2+1≠j * 2+1 by omega),Array.getElem?_setIfInBounds_ne (show l.length * 2≠j * 2+1 by omega),Array.getElem?_setIfInBounds_ne (show 32≠j * 2+1 by omega)]
   exact h2
theorem zpu {W:World} {B:Nat} {x0 x1 v0 v1:Value} {t:TypeId} (h:W.heap[B]? =some (.cells #[x0,x1] t (0,0))):
 ((W.setCell ⟨B,0,none⟩ v0).setCell ⟨B,1,none⟩ v1).cell? ⟨B,0,none⟩=some v0∧((W.setCell ⟨B,0,none⟩ v0).setCell ⟨B,1,none⟩ v1).cell? ⟨B,1,none⟩=some v1:=by
 have:=heap_setCell_same _ B 1 _ _ v1 (heap_setCell_same W B 0 _ _ v0 h)
 constructor <;> simp [World.cell?,this]
theorem zfx (tmps:Array Value) (B:Nat) (e v0 v1:Value) (W:World) (h2:tmps[2]? =some (.pointer (some ⟨B,0,none⟩))) (h3:tmps[3]? =some e) (q0:W.cell? ⟨B,0,none⟩=some v0) (q1:W.cell? ⟨B,1,none⟩=some v1):
 (results Tryz.f148 tmps).run Tryz.prog W= .ok (.tuple #[.agg #[v0,v1],e]) W:=by
 simp [results,Tryz.results148,go_sem,h2,h3,q0,q1]
theorem zhe {w:World} {q:Nat} (h:zZ w q []):
 Calls Tryz.prog 148 #[zv q] w fun e w'=> e= .returned (.tuple #[.agg #[.pointer none, .int .i64 0], .bool false])∧Below w.heap.size w w':=by
 obtain ⟨c32,c33,cf,-⟩:=h.reads;have d32:=zu (zu c32 (.cells #[.pointer none, .int .i64 0] 244)) (.cells #[.pointer none, .int .i64 0] 244);have hb:Below w.heap.size w ((w.alloc (.cells #[.pointer none, .int .i64 0] 244)).alloc (.cells #[.pointer none, .int .i64 0] 244)):=(zr.alloc zl _).alloc (by simp) _
 have y0:(w.alloc (.cells #[.pointer none, .int .i64 0] 244)).cell? ⟨w.heap.size,0,none⟩=some (.pointer none):=by simp
 have y1:(w.alloc (.cells #[.pointer none, .int .i64 0] 244)).cell? ⟨w.heap.size,1,none⟩=some (.int .i64 0):=by simp
 have Y:=zh (zn (zu y0 (.cells #[.pointer none, .int .i64 0] 244)) (zu y1 (.cells #[.pointer none, .int .i64 0] 244)));unfold zv;simp only [List.length_nil,Int.natCast_zero] at d32;clear y0 y1;clear h c32 c33 cf;go_enter Tryz.func148,Tryz.ntmps148;go_wp2_with fail;refine bodyPost_ret (zfx _ w.heap.size _ _ _ _ rfl rfl Y.out.1 Y.out.2) rfl ?_;exact ⟨rfl,hb⟩
theorem zhf {w:World} {q:Nat} {l:List (Nat × Nat)} {x:Nat × Nat} (h:zZ w q (l++ [x])):
 Calls Tryz.prog 148 #[zv q] w fun e w'=> e= .returned (.tuple #[.agg #[zv x.1, .int .i64 (x.2:Int)], .bool true])∧zZ w' q l∧w.grownBy w' (some q):=by
 have hb:Below w.heap.size w ((w.alloc (.cells #[.pointer none, .int .i64 0] 244)).alloc (.cells #[.pointer none, .int .i64 0] 244)):=(zr.alloc zl _).alloc (by simp) _
 have hq:=h.lt;have hl:l.length < 16:=by have:=h.len;simp at this;omega
 have h2:zZ ((w.alloc (.cells #[.pointer none, .int .i64 0] 244)).alloc (.cells #[.pointer none, .int .i64 0] 244)) q (l++ [x]):=h.heap (hb.block q hq);obtain ⟨d32,d33,df,dx⟩:=h2.reads;obtain ⟨x0,x1⟩:=dx l.length x (by rw [List.getElem?_append_right zl];simp)
 have Ac:((l++ [x]).length:Int)=(l.length:Int)+1:=by simp
 rw [Ac] at d32;obtain ⟨c32,c33,cf,cx⟩:=h.reads;obtain ⟨z0,z1⟩:=cx l.length x (by rw [List.getElem?_append_right zl];simp)
 rw [Ac] at c32;have Ab:IntKind.i64.wrap ((l.length:Int)+1 - 1)=(l.length:Int):=by rw [zw _ (by omega)];omega
 have GV:IntKind.i64.wrap (l.length:Int)=(l.length:Int):=zw _ (by omega)
 have Aj:((l.length:Int)+1==0)=false:=by rw [beq_eq_false_iff_ne];omega
 have Yu:(l.length:Int) < 16:=by omega
 have Dm:(0:Int)≤(l.length:Int):=by omega
 have Ei:=zh (h.post (.cells #[.pointer none, .int .i64 0] 244) (.cells #[.pointer none, .int .i64 0] 244));have Lk:=zh (h.pre (.cells #[.pointer none, .int .i64 0] 244) (.cells #[.pointer none, .int .i64 0] 244));unfold zv at x0 z0 Lk ⊢;clear h h2 dx cx Ac;go_enter Tryz.func148,Tryz.ntmps148;go_wp2_with fail;obtain ⟨⟨p32,p0,p1⟩,pf⟩:=Lk.out;obtain ⟨cs5,Fo,MW,Dn,C2⟩:=Ei.out;have O2:(((w.setCell ⟨q,32,none⟩ (.int .i64 (l.length:Int))).alloc (.cells #[.pointer none, .int .i64 0] 244)).alloc (.cells #[.pointer none, .int .i64 0] 244)).heap.size=w.heap.size+1+1:=by simp
 have YP:(((w.setCell ⟨q,32,none⟩ (.int .i64 (l.length:Int))).alloc (.cells #[.pointer none, .int .i64 0] 244)).alloc (.cells #[.pointer none, .int .i64 0] 244)).heap[w.heap.size]? =some (.cells #[.pointer none, .int .i64 0] 244):=by
  rw [Below.heap_alloc _ _ _ (by simp)]
  have:=heap_alloc_new (w.setCell ⟨q,32,none⟩ (.int .i64 (l.length:Int))) (.cells #[.pointer none, .int .i64 0] 244)
  simpa using this
 have Bo:(((w.setCell ⟨q,32,none⟩ (.int .i64 (l.length:Int))).alloc (.cells #[.pointer none, .int .i64 0] 244)).alloc (.cells #[.pointer none, .int .i64 0] 244)).heap[w.heap.size+1]? =some (.cells #[.pointer none, .int .i64 0] 244):=by
  have:=heap_alloc_new ((w.setCell ⟨q,32,none⟩ (.int .i64 (l.length:Int))).alloc (.cells #[.pointer none, .int .i64 0] 244)) (.cells #[.pointer none, .int .i64 0] 244)
  simpa using this
 have BN:w.grownBy (((w.setCell ⟨q,32,none⟩ (.int .i64 (l.length:Int))).alloc (.cells #[.pointer none, .int .i64 0] 244)).alloc (.cells #[.pointer none, .int .i64 0] 244)) (some q):=⟨rfl,rfl,rfl,by simp;omega,fun k hk Aj=> by
  rw [Below.heap_alloc _ _ _ (by simp;omega),Below.heap_alloc _ _ _ (by simpa using hk),heap_setCell_other _ _ k _ (fun e=> Aj (by rw [e]))]⟩
 clear c32 c33 cf z0 z1 d32 d33 df x0 x1;generalize ym:((w.setCell ⟨q,32,none⟩ (.int .i64 (l.length:Int))).alloc (.cells #[.pointer none, .int .i64 0] 244)).alloc (.cells #[.pointer none, .int .i64 0] 244)=W5 at *;have r32:=zu p32 (.cells #[.pointer none, .int .i64 0] 244);have r0:=zu p0 (.cells #[.pointer none, .int .i64 0] 244);have r1:=zu p1 (.cells #[.pointer none, .int .i64 0] 244);have Y6:q < W5.heap.size:=by rw [O2];omega
 have HE:=zh C2;have BU:=zh Dn;clear C2 Dn
 go_region
 all_goals
  go_wp2_with fail;have Mc:(W5.alloc (.cells #[.pointer (some ⟨x.1,0,none⟩), .int .i64 (x.2:Int)] 244)).drew.heap.size=w.heap.size+1+1+1:=by show (W5.alloc (.cells #[.pointer (some ⟨x.1,0,none⟩), .int .i64 (x.2:Int)] 244)).heap.size=_;simp [O2]
  have s32:=zu p32 (.cells #[.pointer (some ⟨x.1,0,none⟩), .int .i64 (x.2:Int)] 244);have s0:=zu p0 (.cells #[.pointer (some ⟨x.1,0,none⟩), .int .i64 (x.2:Int)] 244);have s1:=zu p1 (.cells #[.pointer (some ⟨x.1,0,none⟩), .int .i64 (x.2:Int)] 244);have sq:(W5.alloc (.cells #[.pointer (some ⟨x.1,0,none⟩), .int .i64 (x.2:Int)] 244)).drew.heap[q]? =some (.cells cs5 298 (0,0)):=by
   show (W5.alloc (.cells #[.pointer (some ⟨x.1,0,none⟩), .int .i64 (x.2:Int)] 244)).heap[q]? =_
   rw [Below.heap_alloc _ _ _ Y6];exact Fo
  have so0:(W5.alloc (.cells #[.pointer (some ⟨x.1,0,none⟩), .int .i64 (x.2:Int)] 244)).drew.heap[w.heap.size]? =some (.cells #[.pointer none, .int .i64 0] 244):=by
   show (W5.alloc (.cells #[.pointer (some ⟨x.1,0,none⟩), .int .i64 (x.2:Int)] 244)).heap[w.heap.size]? =_
   rw [Below.heap_alloc _ _ _ (by omega)];exact YP
  have so1:(W5.alloc (.cells #[.pointer (some ⟨x.1,0,none⟩), .int .i64 (x.2:Int)] 244)).drew.heap[w.heap.size+1]? =some (.cells #[.pointer none, .int .i64 0] 244):=by
   show (W5.alloc (.cells #[.pointer (some ⟨x.1,0,none⟩), .int .i64 (x.2:Int)] 244)).heap[w.heap.size+1]? =_
   rw [Below.heap_alloc _ _ _ (by omega)];exact Bo
  have so2:(W5.alloc (.cells #[.pointer (some ⟨x.1,0,none⟩), .int .i64 (x.2:Int)] 244)).drew.heap[w.heap.size+1+1]? =some (.cells #[.pointer (some ⟨x.1,0,none⟩), .int .i64 (x.2:Int)] 244):=by
   have:=heap_alloc_new W5 (.cells #[.pointer (some ⟨x.1,0,none⟩), .int .i64 (x.2:Int)] 244);rw [O2] at this;exact this
  have AX:w.grownBy (W5.alloc (.cells #[.pointer (some ⟨x.1,0,none⟩), .int .i64 (x.2:Int)] 244)).drew (some q):=⟨BN.os,BN.tape,BN.output,by rw [Mc];omega,fun k hk Aj=> by
   show (W5.alloc (.cells #[.pointer (some ⟨x.1,0,none⟩), .int .i64 (x.2:Int)] 244)).heap[k]? =_
   rw [Below.heap_alloc _ _ _ (by omega)];exact BN.block k hk Aj⟩
  clear s32 s0 s1 r32 r0 r1 p32 p0 p1 pf;generalize (W5.alloc (.cells #[.pointer (some ⟨x.1,0,none⟩), .int .i64 (x.2:Int)] 244)).drew=W6 at *;obtain ⟨t32,⟨u0,t0⟩,⟨u1,t1⟩,tf⟩:=BU.out W6 sq;have v0:W6.cell? ⟨w.heap.size,0,none⟩=some (.pointer none):=by simp [World.cell?,so0]
  have v1:W6.cell? ⟨w.heap.size,1,none⟩=some (.int .i64 0):=by simp [World.cell?,so0]
  have vf:∀j,W6.frozen? ⟨w.heap.size,j,none⟩=false:=fun j=> by simp [World.frozen?,so0]
  have n0:W6.cell? ⟨w.heap.size+1,0,none⟩=some (.pointer none):=by simp [World.cell?,so1]
  have n1:W6.cell? ⟨w.heap.size+1,1,none⟩=some (.int .i64 0):=by simp [World.cell?,so1]
  have y0:W6.cell? ⟨w.heap.size+1+1,0,none⟩=some (.pointer (some ⟨x.1,0,none⟩)):=by simp [World.cell?,so2]
  have y1:W6.cell? ⟨w.heap.size+1+1,1,none⟩=some (.int .i64 (x.2:Int)):=by simp [World.cell?,so2]
  have IM:¬q=w.heap.size:=by omega
  have Zb:¬q=w.heap.size+1:=by omega
  have Zc:¬q=w.heap.size+1+1:=by omega
  have WH:=zh sq;have Wu:=zh so0;have Wc:=zh AX;clear sq so0 so1 so2 AX Lk Ei
  go_region
  all_goals
   go_wp2_with fail;have hv:=zpu (v0:= .pointer (some ⟨x.1,0,none⟩)) (v1:= .int .i64 (x.2:Int)) (show ((W6.setCell ⟨q,l.length * 2,none⟩ (.pointer none)).setCell ⟨q,l.length * 2+1,none⟩ (.int .i64 0)).heap[w.heap.size]? =_ from by rw [heap_setCell_other _ _ _ _ (fun e=> IM e.symm),heap_setCell_other _ _ _ _ (fun e=> IM e.symm)];exact Wu.out)
   refine bodyPost_ret (zfx _ w.heap.size _ _ _ _ rfl rfl hv.1 hv.2) rfl ?_;refine ⟨rfl,HE.out _ ?_, ?_⟩
   ·show ((((W6.setCell ⟨q,l.length * 2,none⟩ (.pointer none)).setCell ⟨q,l.length * 2+1,none⟩ (.int .i64 0)).setCell ⟨w.heap.size,0,none⟩ (.pointer (some ⟨x.1,0,none⟩))).setCell ⟨w.heap.size,1,none⟩ (.int .i64 (x.2:Int))).heap[q]? =_
    rw [heap_setCell_other _ _ _ _ IM,heap_setCell_other _ _ _ _ IM];exact heap_setCell_same _ q _ _ _ _ (heap_setCell_same W6 q _ _ _ _ WH.out)
   ·have hg:=Wc.out;refine ⟨hg.os,hg.tape,hg.output,by simp [Mc];omega,fun k hk Aj=> ?_⟩
    have Tj:k≠q:=fun e=> Aj (by rw [e])
    show ((((W6.setCell ⟨q,l.length * 2,none⟩ (.pointer none)).setCell ⟨q,l.length * 2+1,none⟩ (.int .i64 0)).setCell ⟨w.heap.size,0,none⟩ (.pointer (some ⟨x.1,0,none⟩))).setCell ⟨w.heap.size,1,none⟩ (.int .i64 (x.2:Int))).heap[k]? =_
    rw [heap_setCell_other _ _ k _ (by show k≠w.heap.size;omega),heap_setCell_other _ _ k _ (by show k≠w.heap.size;omega),heap_setCell_other _ _ k _ Tj,heap_setCell_other _ _ k _ Tj]
    exact hg.block k hk Aj
end
section
open Go.RowKit
def zaw (w:World) (pt:Nat) (root:Option Nat) (n:Nat):Prop:=w.heap[pt]? =some (.cells #[.pointer (root.map fun p=> ⟨p,0,none⟩), .int .i64 (n:Int)] 100 (0,0))
def zf2 (w:World) (S:Nat→Prop) (k:Nat):{d:Nat}→Nat→Tr d→List (Nat × Nat)→Nat→Tr 0→Prop
 | 0,p,t,path,pl,lt=> path= []∧pl=p∧lt=t∧zQ w S p t
 | _+1,p,t,path,pl,lt=> zQ w S p t∧∃q c path',path=(p,zP (zC t) k)::path'∧(zx t)[zP (zC t) k]? =some c∧zQ w S q c∧zf2 w S k q c path' pl lt
theorem zhl {w:World} {pt n:Nat} (h:zaw w pt none n) (k:Nat):
 Calls Tryz.prog 120 #[zv pt,za2 k] w fun e w'=> ∃q,e= .returned (.tuple #[zv q, .pointer none])∧zZ w' q []∧w.heap.size≤q∧Below w.heap.size w w':=by
 have Aq:Below w.heap.size w (w.alloc (.cells #[.int .u16 (zj k:Int), .int .u32 (zo k:Int), .int .u64 (zp k:Int)] 132)):=zr.alloc zl _;have HN:=zh (zeF (w.alloc (.cells #[.int .u16 (zj k:Int), .int .u32 (zo k:Int), .int .u64 (zp k:Int)] 132)));have Ew:pt < w.heap.size:=(zg h).1;unfold za2 zv at *;go_enter Tryz.func120,Tryz.ntmps120;go_wp2_with fail;refine HN.out.mono ?_;rintro e w2 ⟨rfl,AO,Ae⟩;have hb:=Aq.trans (Ae.mono Aq.size);have hr:w2.cell? ⟨pt,0,none⟩=some (.pointer none):=by
  have e:w2.heap[pt]? =some (.cells #[.pointer none, .int .i64 (n:Int)] 100 (0,0)):=by rw [hb.block pt Ew];exact h
  simp [World.cell?,e]
 have HS:=zh AO;clear AO HN h;go_wp2_with fail;refine wp_loop_rounds 1 ?_;rw [rounds_succ];go_wp2_with fail;go_ret2;exact ⟨w.heap.size+1,rfl,by simpa using HS.out,by omega,hb⟩
theorem zf2.same {S:Nat→Prop} {w w':World} (hs:zbk S w w') {k:Nat}:∀{d:Nat} {p:Nat} {t:Tr d} {path:List (Nat × Nat)} {pl:Nat} {lt:Tr 0},zf2 w S k p t path pl lt→zf2 w' S k p t path pl lt
 | 0,_,_,_,_,_,h=> ⟨h.1,h.2.1,h.2.2.1,h.2.2.2.same hs⟩
 | _+1,_,_,_,_,_,⟨h0,q,c,path',h1,h2,h3,h4⟩=> ⟨h0.same hs,q,c,path',h1,h2,h3.same hs,zf2.same hs h4⟩
def zoV (w:World) (S:Nat→Prop) (k:Nat) {d:Nat} (p:Nat) (t:Tr d) (q:Nat) (v:Value) (m:Nat):Prop:=
 ∃ (e p':Nat) (t':Tr e) (pre:List (Nat × Nat)),m=e∧v=zv p'∧zQ w S p' t'∧0 < zH t'∧zH t'≤6∧zax t'∧zac (flatT t')∧zZ w q pre∧pre.length+e≤d∧
   ∀path pl lt,zf2 w S k p' t' path pl lt→zf2 w S k p t (pre++path) pl lt
theorem zhm {S:Nat→Prop} {w:World} {pt n d p:Nat} {t:Tr d} (h:zaw w pt (some p) n) (ht:zQ w S p t) (hS:∀j,S j→j < w.heap.size) (h0:0 < zH t) (h6:zH t≤6) (hK:zax t) (hr:zac (flatT t)) (hd:d≤15) (k:Nat):
 Calls Tryz.prog 120 #[zv pt,za2 k] w fun e w'=> ∃q path pl lt,e= .returned (.tuple #[zv q,zv pl])∧zZ w' q path∧w.heap.size≤q∧zf2 w' S k p t path pl lt∧Below w.heap.size w w':=by
 have Aq:Below w.heap.size w (w.alloc (.cells #[.int .u16 (zj k:Int), .int .u32 (zo k:Int), .int .u64 (zp k:Int)] 132)):=zr.alloc zl _;have x0:(w.alloc (.cells #[.int .u16 (zj k:Int), .int .u32 (zo k:Int), .int .u64 (zp k:Int)] 132)).cell? ⟨w.heap.size,0,none⟩=some (.int .u16 (zj k:Int)):=by simp
 have x1:(w.alloc (.cells #[.int .u16 (zj k:Int), .int .u32 (zo k:Int), .int .u64 (zp k:Int)] 132)).cell? ⟨w.heap.size,1,none⟩=some (.int .u32 (zo k:Int)):=by simp
 have x2:(w.alloc (.cells #[.int .u16 (zj k:Int), .int .u32 (zo k:Int), .int .u64 (zp k:Int)] 132)).cell? ⟨w.heap.size,2,none⟩=some (.int .u64 (zp k:Int)):=by simp
 have HN:=zh (zeF (w.alloc (.cells #[.int .u16 (zj k:Int), .int .u32 (zo k:Int), .int .u64 (zp k:Int)] 132)));have Ew:pt < w.heap.size:=(zg h).1;have Cd:(w.alloc (.cells #[.int .u16 (zj k:Int), .int .u32 (zo k:Int), .int .u64 (zp k:Int)] 132)).heap.size=w.heap.size+1:=by simp
 unfold za2;unfold zv at HN ⊢;go_enter Tryz.func120,Tryz.ntmps120;go_wp2_with fail;refine HN.out.mono ?_;rintro e w2 ⟨rfl,AO,Ae⟩;have hb:=Aq.trans (Ae.mono Aq.size);have P6:w2.cell? ⟨pt,0,none⟩=some (.pointer (some ⟨p,0,none⟩)):=by
  have e:w2.heap[pt]? =some (.cells #[.pointer (some ⟨p,0,none⟩), .int .i64 (n:Int)] 100 (0,0)):=by rw [hb.block pt Ew];exact h
  simp [World.cell?,e]
 rw [Cd] at AO Ae;have z0:w2.cell? ⟨w.heap.size,0,none⟩=some (.int .u16 (zj k:Int)):=by rw [Ae.cell (p:=⟨w.heap.size,0,none⟩) (by simp)];exact x0
 have z1:w2.cell? ⟨w.heap.size,1,none⟩=some (.int .u32 (zo k:Int)):=by rw [Ae.cell (p:=⟨w.heap.size,1,none⟩) (by simp)];exact x1
 have z2:w2.cell? ⟨w.heap.size,2,none⟩=some (.int .u64 (zp k:Int)):=by rw [Ae.cell (p:=⟨w.heap.size,2,none⟩) (by simp)];exact x2
 have Nk:zoV w2 S k p t (w.heap.size+1) (zv p) d:=⟨d,p,t, [],rfl,rfl,ht.same (zbk.of_below hb hS),h0,h6,hK,hr,AO,by simp,fun path pl lt hw=> hw⟩
 have vr:=zh Nk;have VB:=AO.lt;clear x0 x1 x2 HN Cd h ht h0 h6 hK hr AO Nk Ae;generalize hB:w.heap.size=B at *;go_wp2_with fail
 go_loopw [7] (fun u7 wr=> ∃m:Nat,zoV wr S k p t (B+1) u7 m∧Below (B+1) w2 wr) (fun u7 wr=> d - ((wr.cell? ⟨B+1,32,none⟩).map fun v=> (intOf v).toNat).getD 0)
 case atStart=> exact ⟨d,vr.out,Below.refl _ _⟩
 case round=>
  obtain ⟨m,⟨e,p',t',pre,rfl,rfl,hN,h0,h6,hK,hr,AO,BO,D9⟩,AA⟩:=hrel;have Qy:Below B w wr:=hb.trans (AA.mono (by omega))
  have y0:wr.cell? ⟨B,0,none⟩=some (.int .u16 (zj k:Int)):=by rw [AA.cell (p:=⟨B,0,none⟩) (by show B < B+1;omega)];exact z0
  have y1:wr.cell? ⟨B,1,none⟩=some (.int .u32 (zo k:Int)):=by rw [AA.cell (p:=⟨B,1,none⟩) (by show B < B+1;omega)];exact z1
  have y2:wr.cell? ⟨B,2,none⟩=some (.int .u64 (zp k:Int)):=by rw [AA.cell (p:=⟨B,2,none⟩) (by show B < B+1;omega)];exact z2
  obtain ⟨ka,kc,va,vn,vc,ca,cn,cc,AH,Eu⟩:=hN.box;obtain ⟨b0,b1,b2,b3,YQ⟩:=AH.reads;unfold zv
  cases m with
  | zero=>
    have AL:=D9 [] p' t' ⟨rfl,rfl,rfl,hN⟩;have HF:=zh AL;have EZ:=zh AO;have b0':wr.cell? ⟨p',0,none⟩=some (.bool true):=b0;clear D9 hN hK hr AO Eu AH b0 b1 b2 b3 h0 h6 AL;go_wp2_with fail;go_ret2;exact ⟨B+1,pre++ [],p',t',rfl,by rw [List.append_nil];exact EZ.out,by omega,HF.out,by rw [hB];exact Qy⟩
  | succ m=>
    have b0':wr.cell? ⟨p',0,none⟩=some (.bool false):=b0;have JE:∀j,S j→j < wr.heap.size:=fun j hj=> by have:=hS j hj;have:=Qy.size;omega
    have HK:=zh (zmJ hN JE (by omega) (zdP hK hr) k)
    have HN:=zh hN;have HW:=zh D9;have EZ:=zh AO;have qW:=zh hK;have HR:=zh hr;have Fx:pre.length < 16:=by omega
    have P9:=AO.lt;unfold za2 zv at HK;clear Eu AH b0 b1 b2 b3 hN D9 AO hK hr;go_wp2_with fail;refine HK.out.mono ?_;rintro e w3 ⟨rfl,Am⟩;have Hl:=zh (EZ.out.heap (Am.block (B+1) P9));have Ll:=zh (zhg Hl.out Fx p' (zP (zC t') k));unfold zv at Ll;go_wp2_with fail;refine Ll.out.mono ?_;rintro e w4 ⟨rfl,P8,DH⟩;have Nc:Below B w w3:=Qy.trans (Am.mono (by have:=Qy.size;omega))
    have UN:Below B w w4:=Nc.grown DH (by have:=Nc.size;omega) (fun j hj=> by cases hj;omega)
    have WZ:Below (B+1) w2 w4:=(AA.trans (Am.mono (by omega))).grown DH (by have:=Am.size;omega) (fun j hj=> by cases hj;exact zl)
    have FK:zbk S wr w4:=(zbk.of_below (B:=B) ⟨(DH.os.trans Am.os),(DH.tape.trans Am.tape),(DH.output.trans Am.output),zs Am.size DH.size,fun j hj=> by
        rw [DH.block j (by have:=Qy.size;have:=Am.size;omega) (fun e=> by have:=Option.some.inj e;omega)]
        exact Am.block j (by have:=Qy.size;omega)⟩ (fun j hj=> by have:=hS j hj;omega))
    have OT:zQ w4 S p' t':=HN.out.same FK;have Oo:=zh OT;have Z1:∀path pl lt,zf2 w4 S k p' t' path pl lt→zf2 w4 S k p t (pre++path) pl lt:=fun path pl lt hw=> zf2.same FK (HW.out path pl lt (zf2.same (fun j hj=> (FK j hj).symm) hw));obtain ⟨c,hc⟩:=zcA h0 k;obtain ⟨ka',kc',ca',cc',ps,SA,Yt,T7,YX,Kz⟩:=OT;have Mr:=(zi hc).1;obtain ⟨q',k8⟩:∃q',ps[zP (zC t') k]? =some q':=⟨_,ze (by rw [YX];exact Mr)⟩
    have Iw:=Kz _ q' c k8 hc;obtain ⟨cb,co,rfl,Bn⟩:=T7.2 (zP (zC t') k) (zv q') (by rw [List.getElem?_map,k8];rfl)
    obtain ⟨-,-,-,e3,-⟩:=SA.reads;have Ce:=zm hc;have UR:=zag.kid qW.out Ce;have Nk:zoV w4 S k p t (B+1) (zv q') m:=⟨m,q',c,pre++ [(p',zP (zC t') k)],rfl,rfl,Iw,by have:=UR.lo;omega,UR.hi,UR.kids,zbu HR.out Ce,P8,by simp;omega,fun path pl lt hw=> by
        rw [List.append_assoc];exact Z1 _ pl lt ⟨Oo.out,q',c,path,rfl,hc,Iw,hw⟩⟩
    have Xl:=zh Nk;have e3':w4.cell? ⟨p',3,none⟩=some (.slice (some ⟨cb,co,none⟩) (zx t').length cc'):=e3;have XT:w4.cell? ⟨cb,co+zP (zC t') k,none⟩=some (.pointer (some ⟨q',0,none⟩)):=Bn;have Bb:((zP (zC t') k:Nat):Int) < ((zx t').length:Int):=by omega
    have N1:=P8.reads.1;have T9:=EZ.out.reads.1;simp only [List.length_append,List.length_singleton] at N1;have cg:pre.length < d:=by omega
    clear Nk Iw Kz T7 Yt SA Oo Z1 HW HN HK Ll UR Bn e3 P8;generalize zP (zC t') k=ki at *;generalize (zx t').length=kn at *;go_wp2_with fail
    go_roundw
    case rel=> exact ⟨m,Xl.out,WZ⟩
    case measure=> rw [N1,T9];simp [intOf];omega
end
section
open Go.RowKit
def zd1 (e:En):Value:= .agg #[.int .u16 (zj e.1:Int), .int .u32 (zo e.1:Int), .int .u64 (zp e.1:Int), .int .u32 (e.2:Int)]
theorem laid4 (w:World) (a b c d:Value) (t:TypeId):(w.alloc (.cells #[a,b,c,d] t)).drew.cell? ⟨w.heap.size,0,none⟩=some a∧(w.alloc (.cells #[a,b,c,d] t)).drew.cell? ⟨w.heap.size,1,none⟩=some b∧(w.alloc (.cells #[a,b,c,d] t)).drew.cell? ⟨w.heap.size,2,none⟩=some c∧(w.alloc (.cells #[a,b,c,d] t)).drew.cell? ⟨w.heap.size,3,none⟩=some d:=by
 have h:∀k,(w.alloc (.cells #[a,b,c,d] t)).drew.cell? ⟨w.heap.size,k,none⟩=(#[a,b,c,d]:Array Value)[k]? :=fun k=> by
  show (match (w.alloc (.cells #[a,b,c,d] t)).heap[w.heap.size]? with
   | some (.cells c _ _)=> c[k]?
   | _=> none)=_
  rw [heap_alloc_new]
 exact ⟨h 0,h 1,h 2,h 3⟩
theorem zgR (tmps:Array Value) (B:Nat) (v0 v1 v2 v3:Value) (W:World) (h:tmps[4]? =some (.pointer (some ⟨B,0,none⟩))) (q0:W.cell? ⟨B,0,none⟩=some v0) (q1:W.cell? ⟨B,1,none⟩=some v1) (q2:W.cell? ⟨B,2,none⟩=some v2) (q3:W.cell? ⟨B,3,none⟩=some v3):
 (results Tryz.f122 tmps).run Tryz.prog W= .ok (.agg #[v0,v1,v2,v3]) W:=by
 simp [results,Tryz.results122,go_sem,h,q0,q1,q2,q3]
theorem zmj {S:Nat→Prop} {w:World} {p:Nat} {t:Tr 0} (ht:zQ w S p t) (i:Nat) (e:En) (he:(zS t)[i]? =some e):
 Calls Tryz.prog 122 #[zv p, .int .i64 (i:Int)] w fun r w'=> r= .returned (zd1 e)∧Below w.heap.size w w':=by
 obtain ⟨ka,kc,va,vc,AH,Eu,JN⟩:=ht;obtain ⟨-,b1,b2,-,hp⟩:=AH.reads;have hi:=(zi he).1;obtain ⟨kb,ko,k,rfl,hk,c0,c1,c2⟩:=Eu.list i hi;have Ys:k=e.1:=by
  have:(zC t)[i]? =some e.1:=by
   show ((zS t).map (·.1))[i]? =_
   rw [List.getElem?_map,he];rfl
  rw [hk] at this;exact Option.some.inj this
 subst Ys;obtain ⟨vb,vo,rfl,c3⟩:=JN.2 i (atV e.2) (by rw [List.getElem?_map,he];rfl)
 unfold atV at c3;have Bb:(i:Int) < ((zS t).length:Int):=by omega
 generalize (zS t).length=n at *;have Z:=zu b1 (.cells #[.int .u16 0, .int .u32 0, .int .u64 0, .int .u32 0] 141);have Z2:=zu b2 (.cells #[.int .u16 0, .int .u32 0, .int .u64 0, .int .u32 0] 141);have d0:=zu c0 (.cells #[.int .u16 0, .int .u32 0, .int .u64 0, .int .u32 0] 141);have d1:=zu c1 (.cells #[.int .u16 0, .int .u32 0, .int .u64 0, .int .u32 0] 141);have d2:=zu c2 (.cells #[.int .u16 0, .int .u32 0, .int .u64 0, .int .u32 0] 141);have d3:=zu c3 (.cells #[.int .u16 0, .int .u32 0, .int .u64 0, .int .u32 0] 141);unfold zv zd1;clear AH Eu JN;go_enter Tryz.func122,Tryz.ntmps122;go_wp2_with fail
 go_region
 all_goals
  go_wp2_with fail;have hL:=laid4 w (.int .u16 (zj e.1:Int)) (.int .u32 (zo e.1:Int)) (.int .u64 (zp e.1:Int)) (.int .u32 (e.2:Int)) 141;refine bodyPost_ret (zgR _ w.heap.size _ _ _ _ _ rfl hL.1 hL.2.1 hL.2.2.1 hL.2.2.2) rfl ?_;exact ⟨rfl,Below.drewB (zr.alloc zl _)⟩
theorem zf2.leaf {S:Nat→Prop} {w:World} {k:Nat}:∀{d:Nat} {p:Nat} {t:Tr d} {path:List (Nat × Nat)} {pl:Nat} {lt:Tr 0},zf2 w S k p t path pl lt→0 < zH t→zH t≤6→zax t→zac (flatT t)→
 zQ w S pl lt∧0 < zH lt∧zH lt≤6∧zac (flatT lt)∧zdK t k=zdK lt k
 | 0,_,_,_,_,_,h,h0,h6,_,hr=> by
   obtain ⟨-,rfl,rfl,hn⟩:=h;exact ⟨hn,h0,h6,hr,rfl⟩
 | d+1,_,t,_,_,_,⟨_,q,c,path',_,h2,_,h4⟩,_,_,hK,hr=> by
   have Ce:=zm h2;have hF:=zag.kid hK Ce;obtain ⟨a1,a2,a3,a4,a5⟩:=zf2.leaf h4 (by have:=hF.lo;omega) hF.hi hF.kids (zbu hr Ce)
   refine ⟨a1,a2,a3,a4, ?_⟩;rw [← a5]
   conv=> lhs;unfold zdK
   rw [h2]
   rfl
theorem zmm {l:List En} (hr:zac l) (k:Nat):zb2 l k=if 0≤zdI (l.map (·.1)) k then l[(zdI (l.map (·.1)) k).toNat]? else none:=by
 have hm:((l.map (·.1)).filter fun x=> decide (x≤k)).length=(l.filter fun x=> decide (x.1≤k)).length:=by
  rw [List.filter_map,List.length_map];rfl
 have hk :l.filter (fun x=> decide (x.1≤k))=l.take (l.filter fun x=> decide (x.1≤k)).length:=by
  clear hm
  induction l with
  | nil=> rfl
  | cons x l ih=>
    unfold zac at hr ih;rw [List.pairwise_cons] at hr
    by_cases hx:x.1≤k
    ·rw [List.filter_cons_of_pos (by simpa using hx),List.length_cons,List.take_succ_cons,← ih hr.2]
    ·have:l.filter (fun x=> decide (x.1≤k))= []:=by
         rw [List.filter_eq_nil_iff];intro y hy;have:=hr.1 y hy;simp;omega
     rw [List.filter_cons_of_neg (by simpa using hx),this]
     rfl
 unfold zb2 zdI;rw [hm];have BO:=List.length_filter_le (fun x:En=> decide (x.1≤k)) l;rw [hk];generalize (l.filter fun x=> decide (x.1≤k)).length=c at *;rw [List.length_take];rcases Nat.eq_zero_or_pos c with rfl | hc
 ·simp
 ·rw [if_pos (by omega),List.getLast?_eq_getElem?,List.length_take,List.getElem?_take_of_lt (by omega)]
  congr 1
  omega
theorem zcw (tmps:Array Value) (B:Nat) (e v0 v1 v2 v3:Value) (W:World) (h:tmps[4]? =some (.pointer (some ⟨B,0,none⟩))) (h5:tmps[5]? =some e) (q0:W.cell? ⟨B,0,none⟩=some v0) (q1:W.cell? ⟨B,1,none⟩=some v1) (q2:W.cell? ⟨B,2,none⟩=some v2) (q3:W.cell? ⟨B,3,none⟩=some v3):
 (results Tryz.f73 tmps).run Tryz.prog W= .ok (.tuple #[.agg #[v0,v1,v2,v3],e]) W:=by
 simp [results,Tryz.results73,go_sem,h,h5,q0,q1,q2,q3]
theorem zoJ {W:World} {B:Nat} {a b c d:Value} {t:TypeId} (h:W.heap[B]? =some (.cells #[a,b,c,d] t (0,0))):
 W.cell? ⟨B,0,none⟩=some a∧W.cell? ⟨B,1,none⟩=some b∧W.cell? ⟨B,2,none⟩=some c∧W.cell? ⟨B,3,none⟩=some d∧∀j,W.frozen? ⟨B,j,none⟩=false:=by
 refine ⟨?_, ?_, ?_, ?_,fun j=> ?_⟩ <;> simp [World.cell?,World.frozen?,h]
theorem set4 {W:World} {B:Nat} {a b c d:Value} {t:TypeId} (h:W.heap[B]? =some (.cells #[a,b,c,d] t (0,0))) (v0 v1 v2 v3:Value):
 ((((W.setCell ⟨B,0,none⟩ v0).setCell ⟨B,1,none⟩ v1).setCell ⟨B,2,none⟩ v2).setCell ⟨B,3,none⟩ v3).heap[B]? =some (.cells #[v0,v1,v2,v3] t (0,0)):=
 heap_setCell_same _ B 3 _ _ v3 (heap_setCell_same _ B 2 _ _ v2 (heap_setCell_same _ B 1 _ _ v1 (heap_setCell_same W B 0 _ _ v0 h)))
theorem zci {W w:World} {B C:Nat} (h:Below C w W) (hB:C≤B) (v0 v1 v2 v3:Value):Below C w ((((W.setCell ⟨B,0,none⟩ v0).setCell ⟨B,1,none⟩ v1).setCell ⟨B,2,none⟩ v2).setCell ⟨B,3,none⟩ v3):=
 (((h.setCell (p:=⟨B,0,none⟩) hB v0).setCell (p:=⟨B,1,none⟩) hB v1).setCell (p:=⟨B,2,none⟩) hB v2).setCell (p:=⟨B,3,none⟩) hB v3
def zhR:Option En→Value
 | none=> .tuple #[.agg #[.int .u16 0, .int .u32 0, .int .u64 0, .int .u32 0], .bool false]
 | some e=> .tuple #[zd1 e, .bool true]
theorem zkW {S:Nat→Prop} {w:World} {pt n d p:Nat} {t:Tr d} (h:zaw w pt (some p) n) (ht:zQ w S p t) (hS:∀j,S j→j < w.heap.size) (h0:0 < zH t) (h6:zH t≤6) (hK:zax t) (hr:zac (flatT t)) (hd:d≤15) (k:Nat):
 Calls Tryz.prog 73 #[zv pt,za2 k] w fun r w'=> r= .returned (zhR (zb2 (flatT t) k))∧Below w.heap.size w w':=by
 have Aq:Below w.heap.size w ((w.alloc (.cells #[.int .u16 (zj k:Int), .int .u32 (zo k:Int), .int .u64 (zp k:Int)] 132)).alloc (.cells #[.int .u16 0, .int .u32 0, .int .u64 0, .int .u32 0] 141)):=(zr.alloc zl _).alloc (by simp) _
 have x0:((w.alloc (.cells #[.int .u16 (zj k:Int), .int .u32 (zo k:Int), .int .u64 (zp k:Int)] 132)).alloc (.cells #[.int .u16 0, .int .u32 0, .int .u64 0, .int .u32 0] 141)).cell? ⟨w.heap.size,0,none⟩=some (.int .u16 (zj k:Int)):=zu (by simp) _
 have x1:((w.alloc (.cells #[.int .u16 (zj k:Int), .int .u32 (zo k:Int), .int .u64 (zp k:Int)] 132)).alloc (.cells #[.int .u16 0, .int .u32 0, .int .u64 0, .int .u32 0] 141)).cell? ⟨w.heap.size,1,none⟩=some (.int .u32 (zo k:Int)):=zu (by simp) _
 have x2:((w.alloc (.cells #[.int .u16 (zj k:Int), .int .u32 (zo k:Int), .int .u64 (zp k:Int)] 132)).alloc (.cells #[.int .u16 0, .int .u32 0, .int .u64 0, .int .u32 0] 141)).cell? ⟨w.heap.size,2,none⟩=some (.int .u64 (zp k:Int)):=zu (by simp) _
 have AR:((w.alloc (.cells #[.int .u16 (zj k:Int), .int .u32 (zo k:Int), .int .u64 (zp k:Int)] 132)).alloc (.cells #[.int .u16 0, .int .u32 0, .int .u64 0, .int .u32 0] 141)).heap.size=w.heap.size+2:=by simp
 have ho:((w.alloc (.cells #[.int .u16 (zj k:Int), .int .u32 (zo k:Int), .int .u64 (zp k:Int)] 132)).alloc (.cells #[.int .u16 0, .int .u32 0, .int .u64 0, .int .u32 0] 141)).heap[w.heap.size+1]? =some (.cells #[.int .u16 0, .int .u32 0, .int .u64 0, .int .u32 0] 141):=by
  have:=heap_alloc_new (w.alloc (.cells #[.int .u16 (zj k:Int), .int .u32 (zo k:Int), .int .u64 (zp k:Int)] 132)) (.cells #[.int .u16 0, .int .u32 0, .int .u64 0, .int .u32 0] 141);rw [show (w.alloc (.cells #[.int .u16 (zj k:Int), .int .u32 (zo k:Int), .int .u64 (zp k:Int)] 132)).heap.size=w.heap.size+1 by simp] at this
  exact this
 have Ew:pt < w.heap.size:=(zg h).1;have hW:=zhm (w:=((w.alloc (.cells #[.int .u16 (zj k:Int), .int .u32 (zo k:Int), .int .u64 (zp k:Int)] 132)).alloc (.cells #[.int .u16 0, .int .u32 0, .int .u64 0, .int .u32 0] 141))) (show zaw ((w.alloc (.cells #[.int .u16 (zj k:Int), .int .u32 (zo k:Int), .int .u64 (zp k:Int)] 132)).alloc (.cells #[.int .u16 0, .int .u32 0, .int .u64 0, .int .u32 0] 141)) pt (some p) n from (Aq.block pt Ew).trans h) (ht.same (zbk.of_below Aq hS)) (fun j hj=> by rw [AR];have:=hS j hj;omega) h0 h6 hK hr hd k
 rw [← zgg h0 hK hr k];have HW:=zh hW;unfold za2 zv at HW ⊢;clear hW h ht;go_enter Tryz.func73,Tryz.ntmps73;go_wp2_with fail;generalize ((w.alloc (.cells #[.int .u16 (zj k:Int), .int .u32 (zo k:Int), .int .u64 (zp k:Int)] 132)).alloc (.cells #[.int .u16 0, .int .u32 0, .int .u64 0, .int .u32 0] 141))=w0 at *;refine HW.out.mono ?_;rintro r w3 ⟨q,path,pl,lt,rfl,-,-,D9,Am⟩;obtain ⟨hN,l0,l6,KX,EP⟩:=D9.leaf h0 h6 hK hr;have z0:w3.cell? ⟨w.heap.size,0,none⟩=some (.int .u16 (zj k:Int)):=by rw [Am.cell (p:=⟨w.heap.size,0,none⟩) (by show w.heap.size < w0.heap.size;omega)];exact x0
 have z1:w3.cell? ⟨w.heap.size,1,none⟩=some (.int .u32 (zo k:Int)):=by rw [Am.cell (p:=⟨w.heap.size,1,none⟩) (by show w.heap.size < w0.heap.size;omega)];exact x1
 have z2:w3.cell? ⟨w.heap.size,2,none⟩=some (.int .u64 (zp k:Int)):=by rw [Am.cell (p:=⟨w.heap.size,2,none⟩) (by show w.heap.size < w0.heap.size;omega)];exact x2
 have A6:w3.heap[w.heap.size+1]? =some (.cells #[.int .u16 0, .int .u32 0, .int .u64 0, .int .u32 0] 141):=by rw [Am.block _ (by omega)];exact ho
 have Nc:=Aq.trans (Am.mono (by omega))
 have HF:=zh (zjT hN (by omega) (zdP (d:=0) (t:=lt) trivial KX) k)
 have HN:=zh hN;have Mv:zdK t k=if 0≤zdI (zC lt) k then (zS lt)[(zdI (zC lt) k).toNat]? else none:=by
  rw [EP];exact zmm KX k
 have Io:=zh Mv;have F5:zdI (zC lt) k < (zS lt).length:=by
  unfold zdI;have:=List.length_filter_le (fun x=> decide (x≤k)) (zC lt);rw [zgY] at this
  show _ < ((zH lt:Nat):Int)
  omega
 unfold za2 zv at HF;clear D9 hN EP Mv HW KX hr hK x0 x1 x2 ho;generalize zdI (zC lt) k=z at *;go_wp2_with fail;refine HF.out.mono ?_;rintro r w4 ⟨rfl,Ar⟩;have Bf:w4.heap[w.heap.size+1]? =some (.cells #[.int .u16 0, .int .u32 0, .int .u64 0, .int .u32 0] 141):=by rw [Ar.block _ (zg A6).1];exact A6
 have UN:=Nc.trans (Ar.mono Nc.size)
 by_cases hz:0≤z
 ·obtain ⟨i,rfl⟩:∃i:Nat,z=i:=⟨z.toNat,by omega⟩
  have De:i < (zS lt).length:=by omega
  have JH:(zS lt)[i]? =some (zS lt)[i]:=ze De;have BQ:zdK t k=some (zS lt)[i]:=by rw [Io.out,if_pos hz];simp
  have Hj:=zh BQ;have Yz:∀j,S j→j < w3.heap.size:=fun j hj=> by have:=hS j hj;have:=Nc.size;omega
  have HE:=zh (zmj (HN.out.same (zbk.of_below Ar Yz)) i _ JH);generalize (zS lt)[i]=en at *;unfold zv zd1 at HE;have Ax:¬(i:Int) < 0:=by omega
  clear JH BQ;go_wp2_with fail;refine HE.out.mono ?_;rintro r w5 ⟨rfl,Ag⟩;have AV:w5.heap[w.heap.size+1]? =some (.cells #[.int .u16 0, .int .u32 0, .int .u64 0, .int .u32 0] 141):=by rw [Ag.block _ (zg Bf).1];exact Bf
  have UO:=UN.trans (Ag.mono UN.size);obtain ⟨q0,q1,q2,q3,qf⟩:=zoJ AV;have HO:=zh AV;clear AV Bf A6;go_wp2_with fail;have hs:=zoJ (set4 HO.out (.int .u16 (zj en.1:Int)) (.int .u32 (zo en.1:Int)) (.int .u64 (zp en.1:Int)) (.int .u32 (en.2:Int)));refine bodyPost_ret (zcw _ (w.heap.size+1) _ _ _ _ _ _ rfl rfl hs.1 hs.2.1 hs.2.2.1 hs.2.2.2.1) rfl ?_;exact ⟨by rw [Hj.out];rfl,zci UO (by omega) _ _ _ _⟩
 ·have Ax:z < 0:=by omega
  have BQ:zdK t k=none:=by rw [Io.out,if_neg hz]
  have Hj:=zh BQ;clear BQ;obtain ⟨q0,q1,q2,q3,qf⟩:=zoJ Bf;have HO:=zh Bf;clear Bf A6;go_wp2_with fail;have hs:=zoJ (set4 HO.out (.int .u16 0) (.int .u32 0) (.int .u64 0) (.int .u32 0));refine bodyPost_ret (zcw _ (w.heap.size+1) _ _ _ _ _ _ rfl rfl hs.1 hs.2.1 hs.2.2.1 hs.2.2.2.1) rfl ?_;exact ⟨by rw [Hj.out];rfl,zci UN (by omega) _ _ _ _⟩
theorem zkV {w:World} {pt n:Nat} (h:zaw w pt none n) (k:Nat):
 Calls Tryz.prog 73 #[zv pt,za2 k] w fun r w'=> r= .returned (zhR none)∧Below w.heap.size w w':=by
 have Aq:Below w.heap.size w ((w.alloc (.cells #[.int .u16 (zj k:Int), .int .u32 (zo k:Int), .int .u64 (zp k:Int)] 132)).alloc (.cells #[.int .u16 0, .int .u32 0, .int .u64 0, .int .u32 0] 141)):=(zr.alloc zl _).alloc (by simp) _
 have x0:((w.alloc (.cells #[.int .u16 (zj k:Int), .int .u32 (zo k:Int), .int .u64 (zp k:Int)] 132)).alloc (.cells #[.int .u16 0, .int .u32 0, .int .u64 0, .int .u32 0] 141)).cell? ⟨w.heap.size,0,none⟩=some (.int .u16 (zj k:Int)):=zu (by simp) _
 have x1:((w.alloc (.cells #[.int .u16 (zj k:Int), .int .u32 (zo k:Int), .int .u64 (zp k:Int)] 132)).alloc (.cells #[.int .u16 0, .int .u32 0, .int .u64 0, .int .u32 0] 141)).cell? ⟨w.heap.size,1,none⟩=some (.int .u32 (zo k:Int)):=zu (by simp) _
 have x2:((w.alloc (.cells #[.int .u16 (zj k:Int), .int .u32 (zo k:Int), .int .u64 (zp k:Int)] 132)).alloc (.cells #[.int .u16 0, .int .u32 0, .int .u64 0, .int .u32 0] 141)).cell? ⟨w.heap.size,2,none⟩=some (.int .u64 (zp k:Int)):=zu (by simp) _
 have AR:((w.alloc (.cells #[.int .u16 (zj k:Int), .int .u32 (zo k:Int), .int .u64 (zp k:Int)] 132)).alloc (.cells #[.int .u16 0, .int .u32 0, .int .u64 0, .int .u32 0] 141)).heap.size=w.heap.size+2:=by simp
 have ho:((w.alloc (.cells #[.int .u16 (zj k:Int), .int .u32 (zo k:Int), .int .u64 (zp k:Int)] 132)).alloc (.cells #[.int .u16 0, .int .u32 0, .int .u64 0, .int .u32 0] 141)).heap[w.heap.size+1]? =some (.cells #[.int .u16 0, .int .u32 0, .int .u64 0, .int .u32 0] 141):=by
  have:=heap_alloc_new (w.alloc (.cells #[.int .u16 (zj k:Int), .int .u32 (zo k:Int), .int .u64 (zp k:Int)] 132)) (.cells #[.int .u16 0, .int .u32 0, .int .u64 0, .int .u32 0] 141);rw [show (w.alloc (.cells #[.int .u16 (zj k:Int), .int .u32 (zo k:Int), .int .u64 (zp k:Int)] 132)).heap.size=w.heap.size+1 by simp] at this
  exact this
 have Ew:pt < w.heap.size:=(zg h).1;have HW:=zh (zhl (w:=((w.alloc (.cells #[.int .u16 (zj k:Int), .int .u32 (zo k:Int), .int .u64 (zp k:Int)] 132)).alloc (.cells #[.int .u16 0, .int .u32 0, .int .u64 0, .int .u32 0] 141))) (show zaw ((w.alloc (.cells #[.int .u16 (zj k:Int), .int .u32 (zo k:Int), .int .u64 (zp k:Int)] 132)).alloc (.cells #[.int .u16 0, .int .u32 0, .int .u64 0, .int .u32 0] 141)) pt none n from (Aq.block pt Ew).trans h) k);unfold za2 zv at HW ⊢;clear h;go_enter Tryz.func73,Tryz.ntmps73;go_wp2_with fail;generalize ((w.alloc (.cells #[.int .u16 (zj k:Int), .int .u32 (zo k:Int), .int .u64 (zp k:Int)] 132)).alloc (.cells #[.int .u16 0, .int .u32 0, .int .u64 0, .int .u32 0] 141))=w0 at *;refine HW.out.mono ?_;rintro r w3 ⟨q,rfl,-,-,Am⟩;have A6:w3.heap[w.heap.size+1]? =some (.cells #[.int .u16 0, .int .u32 0, .int .u64 0, .int .u32 0] 141):=by rw [Am.block _ (by omega)];exact ho
 have Nc:=Aq.trans (Am.mono (by omega))
 obtain ⟨q0,q1,q2,q3,qf⟩:=zoJ A6;have HO:=zh A6;clear A6 ho HW x0 x1 x2;go_wp2_with fail;have hs:=zoJ (set4 HO.out (.int .u16 0) (.int .u32 0) (.int .u64 0) (.int .u32 0));refine bodyPost_ret (zcw _ (w.heap.size+1) _ _ _ _ _ _ rfl rfl hs.1 hs.2.1 hs.2.2.1 hs.2.2.2.1) rfl ?_;exact ⟨rfl,zci Nc (by omega) _ _ _ _⟩
end
section
open Go.RowKit
def zaW (e:En):List Value:= [.int .u16 (zj e.1:Int), .int .u32 (zo e.1:Int), .int .u64 (zp e.1:Int), .int .u32 (e.2:Int)]
theorem zN (e:En):(zaW e).length=4:=rfl
theorem zbs (e:En):∀u ∈ zaW e,u.oneCell'=true:=fun u hu=> by
 simp [zaW] at hu;rcases hu with rfl | rfl | rfl | rfl <;> rfl
theorem zgi:(Tryz.prog.info? 141).map (fun i=> (i.zero,i.size,i.bytes))=some (some (.agg #[.int .u16 0, .int .u32 0, .int .u64 0, .int .u32 0]),4,24):=by kernel_rfl
theorem zW {P:Program} {t:TypeId} {z:Value} {s b:Nat} (h:(P.info? t).map (fun i=> (i.zero,i.size,i.bytes))=some (some z,s,b)):∃i0,P.info? t=some i0∧i0.zero=some z∧i0.size=s∧i0.bytes=b:=by
 cases hi:P.info? t with
 | none=> rw [hi] at h;cases h
 | some i0=>
   rw [hi] at h;simp at h;exact ⟨i0,rfl,h.1,h.2.1,h.2.2⟩
theorem zM.one (w:World) (e:En):zM zaW 4 (w.alloc (.cells (zaW e).toArray 141)) (some ⟨w.heap.size,0,none⟩) 1 [e]:=by
 refine ⟨rfl,fun i r h=> ?_⟩;have hi:i < 1:=by simpa using (zi h).1
 have:i=0:=by omega
 subst this;simp at h;subst h;refine ⟨w.heap.size,0,rfl,fun j x hx=> ?_⟩
 show (match (w.alloc (.cells (zaW e).toArray 141)).heap[w.heap.size]? with
  | some (.cells c _ _)=> c[0+0 * 4+j]?
  | _=> none)=_
 rw [heap_alloc_new]
 simpa using hx
theorem zK.push {w:World} {B:Nat} {v:Value} {l:List En} (h:zK zaW 4 141 w B v l) (e:En) (hl:l.length≤100000000) (hB:B≤w.heap.size):
 ∃v' w',(Builtin.append_ #[138,138] 138 #[v, .slice (some ⟨w.heap.size,0,none⟩) 1 1]).run Tryz.prog (w.alloc (.cells (zaW e).toArray 141))= .ok v' w'∧zK zaW 4 141 w' B v' (l++ [e])∧w.grownBy w' v.ownBlock:=by
 obtain ⟨i0,hi,AG,Ai,Ax⟩:=zW zgi;have Af:zK zaW 4 141 (w.alloc (.cells (zaW e).toArray 141)) B v l:=by
  refine ⟨h.1, ?_⟩;rcases h.2 with h2 | ⟨g,cap,cur,hv,hg,hh,r⟩
  ·exact .inl h2
  ·exact .inr ⟨g,cap,cur,hv,hg,by rw [Below.heap_alloc _ _ _ (zg hh).1];exact hh,r⟩
 obtain ⟨v',w',hr,ho,hg⟩:=Af.app zN (by decide) zbs Tryz.underlying138 hi AG Ai Ax rfl 1 (zM.one w e) (by omega) (by omega) (by simp;omega)
 refine ⟨v',w',hr,ho,⟨hg.os,hg.tape,hg.output,zs (by simp) hg.size,fun j hj Aj=> ?_⟩⟩
 rw [hg.block j (by simp;omega) Aj,Below.heap_alloc _ _ _ hj]
theorem zbH {S:Nat→Prop} {w:World} {p:Nat} {t:Tr 0} (ht:zQ w S p t) (hS:∀j,S j→j < w.heap.size) (hn:zH t≤1000):
 Calls Tryz.prog 155 #[zv p] w fun e w'=> ∃v,e= .returned v∧zK zaW 4 141 w' w.heap.size v (zS t)∧Below w.heap.size w w':=by
 have IE:(zS t).length≤1000:=hn;obtain ⟨ka,kc,va,vc,Pd,Tk,Uo⟩:=ht;obtain ⟨-,-,a2,-,-⟩:=Pd.reads;have HX:=zh Pd;have HK:=zh Tk;have HV:=zh Uo;unfold zv;clear Pd Tk Uo;go_enter Tryz.func155,Tryz.ntmps155;go_wp2_with fail
 go_loopw [3,11] (fun u3 u11 wr=> ∃i:Nat,i≤(zS t).length∧u11= .int .i64 i∧zK zaW 4 141 wr w.heap.size u3 ((zS t).take i)∧Below w.heap.size w wr) (fun _ u11 _=> (zS t).length - (intOf u11).toNat)
 case atStart=> exact ⟨0,by omega,rfl,World.ownsRow_nil _ _ _ _,Below.refl _ _⟩
 case round=>
  obtain ⟨i,hi,rfl,Af,AA⟩:=hrel
  by_cases hlt:i < (zS t).length
  ·have Bb:(i:Int) < ((zS t).length:Int):=by omega
   have FK:zbk S w wr:=zbk.of_below AA hS;obtain ⟨-,b1,b2,-,-⟩:=(HX.out.same FK).reads;obtain ⟨e,he⟩:∃e,(zS t)[i]? =some e:=⟨_,ze hlt⟩;obtain ⟨kb,ko,kk,rfl,hk,c0,c1,c2⟩:=(HK.out.same HX.out.keys FK).list i hlt;have Ys:kk=e.1:=by
        have:(zC t)[i]? =some e.1:=by
         show ((zS t).map (·.1))[i]? =_
         rw [List.getElem?_map,he];rfl
        rw [hk] at this;exact Option.some.inj this
   subst Ys;obtain ⟨vb,vo,rfl,c3⟩:=(HV.out.same HX.out.vals FK).2 i (atV e.2) (by rw [List.getElem?_map,he];rfl)
   unfold atV at c3;have Ac:((zS t).take i).length≤1000:=by rw [List.length_take];omega
   obtain ⟨v',w',BE,FJ,hg⟩:=Af.push e (by omega) AA.size
   rw [show (zS t).take i++ [e]=(zS t).take (i+1) by rw [List.take_add_one,he];rfl] at FJ
   have XO:Below w.heap.size w w':=Below.own AA Af hg zl AA.size;have HO:=zh FJ;have XC:(Builtin.append_ #[138,138] 138 #[u3, .slice (some ⟨wr.heap.size,0,none⟩) 1 1]).run Tryz.prog (wr.alloc (.cells #[.int .u16 (zj e.1:Int), .int .u32 (zo e.1:Int), .int .u64 (zp e.1:Int), .int .u32 (e.2:Int)] 141))= .ok v' w':=BE;clear BE;clear hk he Af FJ hg FK;generalize (zS t).length=n at *
   go_wp2_with (at_builtin;refine za rfl _ _ _ rfl XC ?_)
   go_roundw
   case rel=> exact ⟨i+1,by omega,by go_num,HO.out,XO⟩
   case measure=> simp [intOf];omega
  ·obtain rfl:i=(zS t).length:=by omega
   rw [zk zl] at Af;go_wp2_with fail;go_ret;exact ⟨_,rfl,Af,AA⟩
end
end Go.Proofs.YtfldlfladcfggaaGreat
