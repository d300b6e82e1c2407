/- Lemmas of the walks, merged and pressed by press.py. Conditions: those of each theorem. -/
import Derived.Laws.Rows
import Derived.Test.YtaoceecfjlkmdaaGreatM2
import Derived.Test.YtaoceecfjlkmdaaGreatM5
set_option maxRecDepth 100000
set_option maxHeartbeats 64000000
set_option linter.all false
namespace Go.Proofs.YtaoceecfjlkmdaaGreat
open Tryz
variable {l2:List Nat} {B b c c2 n q vb:Nat} {a:Option Addr} {t ta tb:TypeId} {v v0 v1 x0 x1:Value} {W w:World}
section
open Go.RowKit
structure zO (w:World) (q:Nat) (l:List (Nat × Nat)):Prop where
 obj:∃cs:Array Value,w.heap[q]? =some (.cells cs 333 (0,0))/\cs.size=34/\cs[32]? =some (ι l.length)/\cs[33]? =some (ι 16)/\
  ∀i x,l[i]? =some x->cs[i * 2]? =some (zv x.1)/\cs[i * 2+1]? =some (ι x.2)
 len:l.length<=16
theorem zO.lt {l:List (Nat × Nat)} (h:zO w q l):q < w.heap.size:=by
 obtain ⟨cs,e,-⟩:=h.obj;exact (zg e).1
theorem zO.heap {w w':World} {q:Nat} {l:List (Nat × Nat)} (h:zO w q l) (hq:w'.heap[q]? =w.heap[q]?):zO w' q l:=by
 obtain ⟨cs,e,r⟩:=h.obj;exact ⟨⟨cs,by rw [hq];exact e,r⟩,h.len⟩
theorem zO.reads {l:List (Nat × Nat)} (h:zO w q l):w (q 32 ())=some (ι l.length)/\w (q 33 ())=some (ι 16)/\(∀j,w.frozen? (q j ())=false)/\
 ∀i x,l[i]? =some x->w (q (i * 2) ())=some (zv x.1)/\w (q (i * 2+1) ())=some (ι x.2):=by
 obtain ⟨cs,e,-,e1,e2,e3⟩:=h.obj;have hc:∀j,w (q j ())=cs[j]? :=fun j=> by simp [World.cell?,e]
 exact ⟨by rw [hc,e1],by rw [hc,e2],fun j=> by simp [World.frozen?,e],fun i x hx=> by rw [hc,hc];exact e3 i x hx⟩
theorem zO.has {l:List (Nat × Nat)} (h:zO w q l) (j:Nat) (hj:j < 34):∃u,w (q j ())=some u:=by
 obtain ⟨cs,e,hs,-⟩:=h.obj;have hc:w (q j ())=cs[j]? :=by simp [World.cell?,e]
 exact ⟨cs[j]'(by omega),by rw [hc];exact Array.getElem?_eq_getElem _⟩
theorem zO.put {l:List (Nat × Nat)} (h:zO w q l) (hl:l.length < 16) (p i:Nat):
 zO (((w.setCell (q (l.length * 2) ()) (zv p)).setCell (q (l.length * 2+1) ()) ↑i).setCell (q 32 ()) (ι ((l.length:Int)+1))) q (l++ [(p,i)])/\
  w.grownBy (((w.setCell (q (l.length * 2) ()) (zv p)).setCell (q (l.length * 2+1) ()) ↑i).setCell (q 32 ()) (ι ((l.length:Int)+1))) (some q):=by
 obtain ⟨cs,e,hs,e1,e2,e3⟩:=h.obj;refine ⟨⟨⟨_,heap_setCell_same _ q 32 _ _ _ (heap_setCell_same _ q _ _ _ _ (heap_setCell_same w q _ cs _ _ e)),by simp [hs], ?_, ?_,fun j x hx=> ?_⟩,by simp;omega⟩,rfl,rfl,rfl,by simp,fun k _ hk=> ?_⟩
 ·rw [Array.getElem?_setIfInBounds_self_of_lt (by simp [hs])];simp
 ·rw [Array.getElem?_setIfInBounds_ne (by omega),Array.getElem?_setIfInBounds_ne (by omega),Array.getElem?_setIfInBounds_ne (by omega)];exact e2
 ·have hj:j < (l++ [(p,i)]).length:=(zi hx).1;simp at hj
  by_cases FT:j < l.length
  ·rw [List.getElem?_append_left FT] at hx;obtain ⟨h1,h2⟩:=e3 j x hx;refine ⟨?_, ?_⟩
   ·rw [Array.getElem?_setIfInBounds_ne (show 32≠j * 2 by omega),Array.getElem?_setIfInBounds_ne (show l.length * 2+1≠j * 2 by omega),Array.getElem?_setIfInBounds_ne (show l.length * 2≠j * 2 by omega)]
    exact h1
   rw [Array.getElem?_setIfInBounds_ne (show 32≠j * 2+1 by omega),Array.getElem?_setIfInBounds_ne (show l.length * 2+1≠j * 2+1 by omega),Array.getElem?_setIfInBounds_ne (show l.length * 2≠j * 2+1 by omega)]
   exact h2
  have:j=l.length:=by omega
  subst this;rw [List.getElem?_append_right zl] at hx;simp at hx;subst hx;refine ⟨?_, ?_⟩
  ·rw [Array.getElem?_setIfInBounds_ne (show 32≠l.length * 2 by omega),Array.getElem?_setIfInBounds_ne (show l.length * 2+1≠l.length * 2 by omega),Array.getElem?_setIfInBounds_self_of_lt (by omega)]
  rw [Array.getElem?_setIfInBounds_ne (show 32≠l.length * 2+1 by omega),Array.getElem?_setIfInBounds_self_of_lt (by rw [Array.size_setIfInBounds];omega)]
 have FU:k≠q:=fun e=> hk (by rw [e])
 rw [heap_setCell_other _ _ k _ FU,heap_setCell_other _ _ k _ FU,heap_setCell_other _ _ k _ FU]
theorem zdY (w:World):
 χ 201 #[ι 16] w fun e w'=> e=ρ (zv ↑w)/\zO w' ↑w []/\θ w w w':=by
 go_enter func201,ntmps201;go_wp2_with fail;go_ret;refine ⟨rfl,⟨⟨_,heap_alloc_new w _, ?_, ?_, ?_, ?_⟩, ?_⟩,zr.alloc zl _⟩
 ·rfl
 ·rfl
 ·rfl
 ·intro i x hx;simp at hx
 simp
theorem zcg {l:List (Nat × Nat)} (h:zO w q l) (hl:l.length < 16) (p i:Nat):
 χ 203 #[zv q, .agg #[zv p,↑i]] w fun e w'=> e=ρ (.bool true)/\zO w' q (l++ [(p,i)])/\w.grownBy w' (some q):=by
 obtain ⟨c32,c33,cf,-⟩:=h.reads;have hlt:=h.lt;have d32:=zu c32 (.cells #[zv p,↑i] 309);have d33:=zu c33 (.cells #[zv p,↑i] 309);have x0:(w.alloc (.cells #[zv p,↑i] 309)) w=some (zv p):=uh;have x1:(w.alloc (.cells #[zv p,↑i] 309)) ⟨↑w,1,none⟩=some ↑i:=uh;have hf:∀j,(w.alloc (.cells #[zv p,↑i] 309)).frozen? (q j ())=false:=fun j=> by
  have:=(h.heap (w':=w.alloc (.cells #[zv p,↑i] 309)) (Below.heap_alloc _ _ _ hlt)).reads.2.2.1 j;exact this
 have E9:(l.length:Int) < 16:=ud;have Aj:((l.length:Int)==16)=false:=by rw [beq_eq_false_iff_ne];omega
 unfold zv at *;generalize Ld:w.alloc (.cells #[π (some ↑p),↑i] 309)=wa at *;have My:zO wa q l:=h.heap uax;have DS:θ w w wa:=by rw [<- Ld];exact zr.alloc zl _
 obtain ⟨u0,y0⟩:=My.has (l.length * 2) ud;obtain ⟨u1,y1⟩:=My.has (l.length * 2+1) ud;have Ab:IntKind.i64.wrap ((l.length:Int)+1)=(l.length:Int)+1:=zw _ ud;have Cc:=My.put hl p i;unfold zv at Cc;have HP:=zh Cc;have XI:l.length * 2≠32:=ud;have XJ:l.length * 2+1≠32:=ud;clear h c32 c33 cf My Cc;go_in;go_wp2_with fail
 go_region
 all_goals
  go_wp2_with fail
  go_region
  all_goals
   go_wp2;go_ret;refine ⟨rfl,HP.out.1.heap rfl, ?_⟩;have hg:=HP.out.2;exact ⟨hg.os.trans DS.os,hg.tape.trans DS.tape,hg.output.trans DS.output,zs DS.size hg.size,fun k hk Aj=> (hg.block k (zt hk DS.size) Aj).trans (DS.block k hk)⟩
theorem zO.pre {l:List (Nat × Nat)} {x:Nat × Nat} (h:zO w q (l++ [x])) (o1 o2:Obj):
 ((((w.setCell (q 32 ()) ↑l.length).alloc o1).alloc o2) (q 32 ())=some ↑l.length/\(((w.setCell (q 32 ()) ↑l.length).alloc o1).alloc o2) (q (l.length * 2) ())=some (zv x.1)/\
   (((w.setCell (q 32 ()) ↑l.length).alloc o1).alloc o2) (q (l.length * 2+1) ())=some ↑x.2)/\∀j,(((w.setCell (q 32 ()) ↑l.length).alloc o1).alloc o2).frozen? (q j ())=false:=by
 obtain ⟨cs,e,hs,e1,e2,e3⟩:=h.obj;have hl:l.length < 16:=by have:=h.len;simp at this;omega
 have hq:=h.lt;have hx:(l++ [x])[l.length]? =some x:=by rw [List.getElem?_append_right zl];simp
 obtain ⟨h1,h2⟩:=e3 l.length x hx;have hh:(((w.setCell (q 32 ()) ↑l.length).alloc o1).alloc o2).heap[q]? =some (.cells (cs.setIfInBounds 32 ↑l.length) 333 (0,0)):=by
  rw [Below.heap_alloc _ _ _ (by simp;omega),Below.heap_alloc _ _ _ (by simpa using hq)]
  exact heap_setCell_same w q 32 cs _ _ e
 have hc:∀j,(((w.setCell (q 32 ()) ↑l.length).alloc o1).alloc o2) (q j ())=(cs.setIfInBounds 32 ↑l.length)[j]? :=fun j=> by simp [World.cell?,hh]
 refine ⟨⟨?_, ?_, ?_⟩,fun j=> by simp [World.frozen?,hh]⟩
 ·rw [hc,Array.getElem?_setIfInBounds_self_of_lt (by omega)]
 ·rw [hc,Array.getElem?_setIfInBounds_ne (by omega)];exact h1
 rw [hc,Array.getElem?_setIfInBounds_ne (by omega)];exact h2
theorem zO.post {l:List (Nat × Nat)} {x:Nat × Nat} (h:zO w q (l++ [x])) (o1 o2:Obj):
 ∃ cs5:Array Value,(((w.setCell (q 32 ()) ↑l.length).alloc o1).alloc o2).heap[q]? =some (.cells cs5 333 (0,0))/\cs5.size=34/\
   (∀W':World,W'.heap[q]? =some (.cells cs5 333 (0,0))->W' (q 32 ())=some ↑l.length/\(∃u,W' (q (l.length * 2) ())=some u)/\(∃u,W' (q (l.length * 2+1) ())=some u)/\∀j,W'.frozen? (q j ())=false)/\
   ∀W':World,W'.heap[q]? =some (.cells ((cs5.setIfInBounds (l.length * 2) (π none)).setIfInBounds (l.length * 2+1) (ι 0)) 333 (0,0))->zO W' q l:=by
 obtain ⟨cs,e,hs,e1,e2,e3⟩:=h.obj;have hl:l.length < 16:=by have:=h.len;simp at this;omega
 have hq:=h.lt;refine ⟨cs.setIfInBounds 32 ↑l.length, ?_,by simp [hs],fun W' Mb=> ?_,fun W' Mb=> ⟨⟨_,Mb,by simp [hs], ?_, ?_,fun j y hy=> ?_⟩,by omega⟩⟩
 ·rw [Below.heap_alloc _ _ _ (by simp;omega),Below.heap_alloc _ _ _ (by simpa using hq)]
  exact heap_setCell_same w q 32 cs _ _ e
 ·have hc:∀j,W' (q j ())=(cs.setIfInBounds 32 ↑l.length)[j]? :=fun j=> by simp [World.cell?,Mb]
  refine ⟨?_, ?_, ?_,fun j=> by simp [World.frozen?,Mb]⟩
  ·rw [hc,Array.getElem?_setIfInBounds_self_of_lt (by omega)]
  ·exact ⟨_,(hc _).trans (Array.getElem?_eq_getElem (by rw [Array.size_setIfInBounds];omega))⟩
  exact ⟨_,(hc _).trans (Array.getElem?_eq_getElem (by rw [Array.size_setIfInBounds];omega))⟩
 ·rw [Array.getElem?_setIfInBounds_ne (by omega),Array.getElem?_setIfInBounds_ne (by omega),Array.getElem?_setIfInBounds_self_of_lt (by omega)]
 ·rw [Array.getElem?_setIfInBounds_ne (by omega),Array.getElem?_setIfInBounds_ne (by omega),Array.getElem?_setIfInBounds_ne (by omega)];exact e2
 have hj:j < l.length:=(zi hy).1;obtain ⟨h1,h2⟩:=e3 j y (by rw [List.getElem?_append_left hj];exact hy)
 refine ⟨?_, ?_⟩
 ·rw [Array.getElem?_setIfInBounds_ne (show l.length * 2+1≠j * 2 by omega),Array.getElem?_setIfInBounds_ne (show l.length * 2≠j * 2 by omega),Array.getElem?_setIfInBounds_ne (show 32≠j * 2 by omega)]
  exact h1
 rw [Array.getElem?_setIfInBounds_ne (show l.length * 2+1≠j * 2+1 by omega),Array.getElem?_setIfInBounds_ne (show l.length * 2≠j * 2+1 by omega),Array.getElem?_setIfInBounds_ne (show 32≠j * 2+1 by omega)]
 exact h2
theorem zoj (h:W.heap[B]? =some (.cells #[x0,x1] t (0,0))):
 ((W.setCell ↑B v0).setCell (B 1 ()) v1) B=some v0/\((W.setCell ↑B v0).setCell (B 1 ()) v1) (B 1 ())=some v1:=by
 have:=heap_setCell_same _ B 1 _ _ v1 (heap_setCell_same W B 0 _ _ v0 h)
 constructor <;> simp [World.cell?,this]
theorem zey (tmps:Array Value) (B:Nat) (e v0 v1:Value) (W:World) (h2:tmps[2]? =some (π (some ↑B))) (h3:tmps[3]? =some e) (q0:W B=some v0) (q1:W (B 1 ())=some v1):
 (results Tryz.f204 tmps).run prog W= .ok (.tuple #[.agg #[v0,v1],e]) W:=by
 simp [results,Tryz.results204,go_sem,h2,h3,q0,q1]
theorem zfX (h:zO w q []):
 χ 204 #[zv q] w fun e w'=> e=ρ (.tuple #[.agg #[π none,ι 0], .bool false])/\θ w w w':=by
 obtain ⟨c32,c33,cf,-⟩:=h.reads;have d32:=zu (zu c32 (.cells #[π none,ι 0] 309)) (.cells #[π none,ι 0] 309);have hb:θ w w ((w.alloc (.cells #[π none,ι 0] 309)).alloc (.cells #[π none,ι 0] 309)):=(zr.alloc zl _).alloc uh _;have y0:(w.alloc (.cells #[π none,ι 0] 309)) w=some (π none):=uh;have y1:(w.alloc (.cells #[π none,ι 0] 309)) ⟨↑w,1,none⟩=some (ι 0):=uh;have Y:=zh (zn (zu y0 (.cells #[π none,ι 0] 309)) (zu y1 (.cells #[π none,ι 0] 309)));unfold zv;simp only [List.length_nil,Int.natCast_zero] at d32;clear y0 y1;clear h c32 c33 cf;go_in;go_wp2_with fail;refine bodyPost_ret (zey _ ↑w _ _ _ _ rfl rfl Y.out.1 Y.out.2) rfl ?_;exact ⟨rfl,hb⟩
theorem zfY {l:List (Nat × Nat)} {x:Nat × Nat} (h:zO w q (l++ [x])):
 χ 204 #[zv q] w fun e w'=> e=ρ (.tuple #[.agg #[zv x.1,↑x.2], .bool true])/\zO w' q l/\w.grownBy w' (some q):=by
 have hb:θ w w ((w.alloc (.cells #[π none,ι 0] 309)).alloc (.cells #[π none,ι 0] 309)):=(zr.alloc zl _).alloc uh _;have hq:=h.lt;have hl:l.length < 16:=by have:=h.len;simp at this;omega
 have h2:zO ((w.alloc (.cells #[π none,ι 0] 309)).alloc (.cells #[π none,ι 0] 309)) q (l++ [x]):=h.heap (hb.block q hq);obtain ⟨d32,d33,df,dx⟩:=h2.reads;obtain ⟨x0,x1⟩:=dx l.length x uL;have Ac:((l++ [x]).length:Int)=(l.length:Int)+1:=uh;rw [Ac] at d32;obtain ⟨c32,c33,cf,cx⟩:=h.reads;obtain ⟨z0,z1⟩:=cx l.length x uL;rw [Ac] at c32;have Ab:IntKind.i64.wrap ((l.length:Int)+1 - 1)=(l.length:Int):=by rw [zw _ ud];omega
 have GV:IntKind.i64.wrap (l.length:Int)=(l.length:Int):=zw _ ud;have Aj:((l.length:Int)+1==0)=false:=by rw [beq_eq_false_iff_ne];omega
 have Yu:(l.length:Int) < 16:=ud;have Dm:(0:Int)<=(l.length:Int):=ud;have Ei:=zh (h.post (.cells #[π none,ι 0] 309) (.cells #[π none,ι 0] 309));have Lk:=zh (h.pre (.cells #[π none,ι 0] 309) (.cells #[π none,ι 0] 309));unfold zv at x0 z0 Lk ⊢;clear h h2 dx cx Ac;go_in;go_wp2_with fail;obtain ⟨⟨p32,p0,p1⟩,pf⟩:=Lk.out;obtain ⟨cs5,Fo,MW,Dn,C2⟩:=Ei.out;have O2:(((w.setCell (q 32 ()) ↑l.length).alloc (.cells #[π none,ι 0] 309)).alloc (.cells #[π none,ι 0] 309)).heap.size=w.heap.size+1+1:=uh;have YP:(((w.setCell (q 32 ()) ↑l.length).alloc (.cells #[π none,ι 0] 309)).alloc (.cells #[π none,ι 0] 309)).heap[w.heap.size]? =some (.cells #[π none,ι 0] 309):=by
  rw [Below.heap_alloc _ _ _ uh];have:=heap_alloc_new (w.setCell (q 32 ()) ↑l.length) (.cells #[π none,ι 0] 309)
  simpa using this
 have Bo:(((w.setCell (q 32 ()) ↑l.length).alloc (.cells #[π none,ι 0] 309)).alloc (.cells #[π none,ι 0] 309)).heap[w.heap.size+1]? =some (.cells #[π none,ι 0] 309):=by
  have:=heap_alloc_new ((w.setCell (q 32 ()) ↑l.length).alloc (.cells #[π none,ι 0] 309)) (.cells #[π none,ι 0] 309)
  simpa using this
 have BN:w.grownBy (((w.setCell (q 32 ()) ↑l.length).alloc (.cells #[π none,ι 0] 309)).alloc (.cells #[π none,ι 0] 309)) (some q):=⟨rfl,rfl,rfl,uo,fun k hk Aj=> by
  rw [Below.heap_alloc _ _ _ uo,Below.heap_alloc _ _ _ (by simpa using hk),heap_setCell_other _ _ k _ (fun e=> Aj uJ)]⟩
 clear c32 c33 cf z0 z1 d32 d33 df x0 x1;generalize ym:((w.setCell (q 32 ()) ↑l.length).alloc (.cells #[π none,ι 0] 309)).alloc (.cells #[π none,ι 0] 309)=W5 at *;have r32:=zu p32 (.cells #[π none,ι 0] 309);have r0:=zu p0 (.cells #[π none,ι 0] 309);have r1:=zu p1 (.cells #[π none,ι 0] 309);have Y6:q < ↑W5:=by rw [O2];omega
 have HE:=zh C2;have BU:=zh Dn;clear C2 Dn
 go_region
 all_goals
  go_wp2_with fail;have Mc:(W5.alloc (.cells #[π (some ⟨x.1,0,none⟩),↑x.2] 309)).drew.heap.size=w.heap.size+1+1+1:=by show (W5.alloc (.cells #[π (some ⟨x.1,0,none⟩),↑x.2] 309)).heap.size=_;simp [O2]
  have s32:=zu p32 (.cells #[π (some ⟨x.1,0,none⟩),↑x.2] 309);have s0:=zu p0 (.cells #[π (some ⟨x.1,0,none⟩),↑x.2] 309);have s1:=zu p1 (.cells #[π (some ⟨x.1,0,none⟩),↑x.2] 309);have sq:(W5.alloc (.cells #[π (some ⟨x.1,0,none⟩),↑x.2] 309)).drew.heap[q]? =some (.cells cs5 333 (0,0)):=by
   show (W5.alloc (.cells #[π (some ⟨x.1,0,none⟩),↑x.2] 309)).heap[q]? =_
   rw [Below.heap_alloc _ _ _ Y6];exact Fo
  have so0:(W5.alloc (.cells #[π (some ⟨x.1,0,none⟩),↑x.2] 309)).drew.heap[w.heap.size]? =some (.cells #[π none,ι 0] 309):=by
   show (W5.alloc (.cells #[π (some ⟨x.1,0,none⟩),↑x.2] 309)).heap[w.heap.size]? =_
   rw [Below.heap_alloc _ _ _ ud];exact YP
  have so1:(W5.alloc (.cells #[π (some ⟨x.1,0,none⟩),↑x.2] 309)).drew.heap[w.heap.size+1]? =some (.cells #[π none,ι 0] 309):=by
   show (W5.alloc (.cells #[π (some ⟨x.1,0,none⟩),↑x.2] 309)).heap[w.heap.size+1]? =_
   rw [Below.heap_alloc _ _ _ ud];exact Bo
  have so2:(W5.alloc (.cells #[π (some ⟨x.1,0,none⟩),↑x.2] 309)).drew.heap[w.heap.size+1+1]? =some (.cells #[π (some ⟨x.1,0,none⟩),↑x.2] 309):=by
   have:=heap_alloc_new W5 (.cells #[π (some ⟨x.1,0,none⟩),↑x.2] 309);rw [O2] at this;exact this
  have AX:w.grownBy (W5.alloc (.cells #[π (some ⟨x.1,0,none⟩),↑x.2] 309)).drew (some q):=⟨BN.os,BN.tape,BN.output,by rw [Mc];omega,fun k hk Aj=> by
   show (W5.alloc (.cells #[π (some ⟨x.1,0,none⟩),↑x.2] 309)).heap[k]? =_
   rw [Below.heap_alloc _ _ _ ud];exact BN.block k hk Aj⟩
  clear s32 s0 s1 r32 r0 r1 p32 p0 p1 pf;generalize (W5.alloc (.cells #[π (some ⟨x.1,0,none⟩),↑x.2] 309)).drew=W6 at *;obtain ⟨t32,⟨u0,t0⟩,⟨u1,t1⟩,tf⟩:=BU.out W6 sq;have v0:W6 w=some (π none):=by simp [World.cell?,so0]
  have v1:W6 ⟨↑w,1,none⟩=some (ι 0):=by simp [World.cell?,so0]
  have vf:∀j,W6.frozen? ⟨↑w,j,none⟩=false:=fun j=> by simp [World.frozen?,so0]
  have n0:W6 ⟨↑w+1,0,none⟩=some (π none):=by simp [World.cell?,so1]
  have n1:W6 ⟨↑w+1,1,none⟩=some (ι 0):=by simp [World.cell?,so1]
  have y0:W6 ⟨↑w+1+1,0,none⟩=some (π (some ⟨x.1,0,none⟩)):=by simp [World.cell?,so2]
  have y1:W6 ⟨↑w+1+1,1,none⟩=some ↑x.2:=by simp [World.cell?,so2]
  have IM:¬q=↑w:=ud;have Zb:¬q=w.heap.size+1:=ud;have Zc:¬q=w.heap.size+1+1:=ud;have WH:=zh sq;have Wu:=zh so0;have Wc:=zh AX;clear sq so0 so1 so2 AX Lk Ei
  go_region
  all_goals
   go_wp2_with fail;have hv:=zoj (v0:=π (some ⟨x.1,0,none⟩)) (v1:= ι x.2) (show ((W6.setCell (q (l.length * 2) ()) (π none)).setCell (q (l.length * 2+1) ()) (ι 0)).heap[w.heap.size]? =_ from by rw [heap_setCell_other _ _ _ _ (fun e=> IM e.symm),heap_setCell_other _ _ _ _ (fun e=> IM e.symm)];exact Wu.out)
   refine bodyPost_ret (zey _ ↑w _ _ _ _ rfl rfl hv.1 hv.2) rfl ?_;refine ⟨rfl,HE.out _ ?_, ?_⟩
   ·show ((((W6.setCell (q (l.length * 2) ()) (π none)).setCell (q (l.length * 2+1) ()) (ι 0)).setCell ↑w (π (some ⟨x.1,0,none⟩))).setCell ⟨↑w,1,none⟩ ↑x.2).heap[q]? =_
    rw [heap_setCell_other _ _ _ _ IM,heap_setCell_other _ _ _ _ IM];exact heap_setCell_same _ q _ _ _ _ (heap_setCell_same W6 q _ _ _ _ WH.out)
   have hg:=Wc.out;refine ⟨hg.os,hg.tape,hg.output,by simp [Mc];omega,fun k hk Aj=> ?_⟩
   have Tj:k≠q:=fun e=> Aj uJ
   show ((((W6.setCell (q (l.length * 2) ()) (π none)).setCell (q (l.length * 2+1) ()) (ι 0)).setCell ↑w (π (some ⟨x.1,0,none⟩))).setCell ⟨↑w,1,none⟩ ↑x.2).heap[k]? =_
   rw [heap_setCell_other _ _ k _ uae,heap_setCell_other _ _ k _ uae,heap_setCell_other _ _ k _ Tj,heap_setCell_other _ _ k _ Tj];exact hg.block k hk Aj
end
section
open Go.RowKit
def zcV (n:Nat):List Value:= [zv n]
theorem zE (e:Nat):(zcV e).length=1:=rfl
theorem zbg (e:Nat):∀u ∈ zcV e,u.oneCell'=true:=fun u hu=> by
 simp [zcV] at hu;subst hu
 rfl
theorem zj1:(prog.info? 157).map (fun i=> (i.zero,i.size,i.bytes))=some (some (π none),1,8):=ue
theorem zM.ptr {l:List Nat} (h:zM zcV 1 w a n l) (i q:Nat) (hq:l[i]? =some q):∃b o,a=some ⟨b,o,()⟩/\w ⟨b,o+i,()⟩=some (zv q):=by
 obtain ⟨b,o,e,h1⟩:=h.2 i q hq;exact ⟨b,o,e,by have:=h1 0 (zv q) rfl;simpa using this⟩
theorem zdg {o:Nat} {l:List Nat} (h:zM zcV 1 w (some (b o ())) n l) (hn:n<=1000):
 χ 156 #[σ (some (b o ())) n c] w fun r w'=> ∃v',r=ρ v'/\zK zcV 1 157 w' ↑w v' l/\θ w w w':=by
 obtain ⟨i0,AD,AG,Ai,Ax⟩:=zW zj1;have Aq:θ w w (w.alloc (.cells #[] 157)):=zr.alloc zl _;have Af:zK zcV 1 157 (w.alloc (.cells #[] 157)) ↑w (σ (some ↑w) 0 0) []:=World.ownsRow_made w #[] 0 zl (Nat.zero_le _) uh;have h1:zM zcV 1 (w.alloc (.cells #[] 157)) (some (b o ())) n l:=⟨h.1,fun i r hr=> by
  obtain ⟨b',o',e,h2⟩:=h.2 i r hr;exact ⟨b',o',e,fun j x hx=> zu (h2 j x hx) _⟩⟩
 obtain ⟨v',w',BE,ho,hg⟩:=Af.app zE uf zbg Tryz.underlying225 AD AG Ai Ax rfl c h1 uo uo Aq.size;have HR:=zh (zn ho (Below.own Aq Af hg zl Aq.size));have q22:(binOp .eql 225 (σ (some (b o ())) n c) (σ none 0 0)).run prog w= .ok (.bool false) w:=Lib.run_eql_slice_nil w _ _ _ n c 0 0 Tryz.underlying225;go_in
 go_wp2_with (at_builtin;refine za rfl _ _ _ rfl BE ?_)
 go_ret;exact ⟨v',rfl,HR.out⟩
theorem zjg {ca cb:Array Value}  (h1:w.heap[vb]? =some (.cells ca ta (0,0))) (h2:w.heap[b]? =some (.cells cb tb (0,0))) (Aj:b≠vb) (Pg:ca.size≠0) (o la va lb vc:Nat):
 (callFunc 197 #[σ (some (b o ())) lb vc,σ (some ↑vb) la va]).run prog w= .ok (.value (.bool false)) w:=by
 obtain ⟨i0,hi,AG,Ai,Ax⟩:=zW zj1;rw [run_callFunc_extern func197 ue ue ue (e:=Extern.SlicesOverlaps.overlaps #[225,225] #[4]) ue,
  Lib.run_overlaps_apart w 225 4 157 Tryz.underlying225 1 (fun w=> by simp [sizeOf,typeInfo,hi,Ai]) (b o ()) ↑vb lb vc la va Aj tb ta cb.size ca.size (by simp [World.shape?,h2]) (by simp [World.shape?,h1]) Pg (by simp [World.frozen?,h2]) (by simp [World.frozen?,h2])]
 rfl
theorem zcF {l:List Nat} (h:zK zcV 1 157 w B v l) (i j:Nat) (Fr:i < j) (hj:j<=l.length) (hl:l.length<=1000) {b2:Nat}   (h2:zM zcV 1 w (some ↑b2) l2.length l2) (bJ:0 < l2.length) (bK:l2.length<=1000) (bL:l2.length<=j - i+1)
 {cur2:Array Value} {t2:TypeId} (Ae:w.heap[b2]? =some (.cells cur2 t2 (0,0))) (Bd:cur2.size≠0) (Aj:v.ownBlock≠some b2) (hB:B<=↑w):
 χ 155 #[v,↑i,↑j,σ (some ↑b2) l2.length c2] w fun r w'=> ∃v',r=ρ v'/\zK zcV 1 157 w' B v' (l.take i++(l2++l.drop j))/\w.grownBy w' v.ownBlock:=by
 obtain ⟨i0,AD,AG,Ai,Ax⟩:=zW zj1;rcases h.cases with ⟨rfl,rfl⟩ | ⟨g,cap,rfl,Bc,BF,hR⟩
 ·simp at hj;omega
 have G6:g≠b2:=fun e=> Aj (by rw [e];rfl)
 have BO:=hR.le;have Ce:cap<=9223372036854775807:=by have:=hR.cm;unfold maxLen at this;omega
 have BJ:(l.drop j).length=l.length - j:=List.length_drop;have Ci:(l.take i).length=i:=by rw [List.length_take];omega
 have E6:=hR.row zE;have EG:zM zcV 1 w (some (g j ())) (l.length - j) (l.drop j):=by simpa using E6.drop j
 have hc2r:=zM.cells zE uf h2;have hb2s:b2 < ↑w:=(zg Ae).1;have KL:(i:Int)≠(j:Int):=ud
 by_cases C2:j=l.length
 ·subst C2;have AL:l.take i++(l2++l.drop l.length)=l.take i++l2:=by rw [List.drop_length,List.append_nil]
  by_cases VF:i+l2.length < l.length
  ·obtain ⟨w1,BK,C9,BC⟩:=zbn zE zbg (t:=225) Tryz.underlying225 AD Ai hR i ud l2 ↑b2 hc2r ud;obtain ⟨w2,B7,B0,A9⟩:=zbe uf (t:=225) (z:=π none) Tryz.underlying225 (fun w=> by simp [zeroValue,typeInfo,AD,AG]) rfl (fun u hu=> by simp [Value.cells] at hu;subst hu;rfl) C9 (i+l2.length) (l.length - (i+l2.length)) (by rw [List.length_append,Ci];exact zl) ud ((i+l2.length) * 1) (.inr rfl)
   have Af:=B0.own zE Bc;rw [List.length_append,Ci,<- AL] at Af;have HR:=zh (zn Af (BC.trans A9).grown);simp only [Nat.mul_one] at BK B7;have Jn:¬cap=i+l2.length:=ud;have BH:i<=cap:=ud;have PM:(i:Int)+(l2.length:Int) < (l.length:Int):=ud;have NM:i+l2.length<=l.length:=ud;have PN:i<=l.length:=ud;clear h hR E6 EG C9 B0 BC A9 hc2r Af AL AD AG Ai Ax BJ Ci BF Bc h2 Ae Bd hb2s Aj;generalize hn:l.length=n at *;generalize hm:l2.length=m at *;go_in
   go_wp2_with (at_builtin;refine za rfl _ _ _ rfl (BK _ _) ?_)
   go_ret;exact ⟨_,rfl,HR.out⟩
  have EU:=(hR.take zE i).own zE Bc;rw [Ci] at EU;obtain ⟨v1,w1,BK,Bo,Cf⟩:=EU.app zE uf zbg Tryz.underlying225 AD AG Ai Ax rfl c2 h2 ud ud hB;rw [<- AL] at Bo;have HR:=zh (zn Bo (show w.grownBy w1 (some g) from Cf));obtain ⟨a1,cap1,rfl,-,SD,-⟩:=Bo.row zE;have EF:(l.take i++(l2++l.drop l.length)).length=i+l2.length:=by rw [AL,List.length_append,Ci]
  rw [EF] at BK HR;have BH:i<=cap:=ud;have PM:¬((i:Int)+(l2.length:Int) < (l.length:Int)):=ud;have PN:i<=l.length:=ud;clear h hR E6 EG Bo Cf EU hc2r AL AD AG Ai Ax BJ Ci BF Bc h2 Ae Bd hb2s Aj EF SD;generalize hn:l.length=n at *;generalize hm:l2.length=m at *;go_in
  go_wp2_with (at_builtin;refine za rfl _ _ _ rfl BK ?_)
  go_ret;exact ⟨_,rfl,HR.out⟩
 have FT:j < l.length:=ud;have BG:(l.take i++(l2++l.drop j)).length=i+l2.length+(l.length - j):=by rw [List.length_append,List.length_append,Ci,BJ,Nat.add_assoc]
 have DP:IntKind.i64.wrap ((i:Int)+(l2.length:Int))=((i+l2.length:Nat):Int):=by rw [zw _ ud];omega
 have BB:IntKind.i64.wrap (((i+l2.length:Nat):Int)+((l.length - j:Nat):Int))=((i+l2.length+(l.length - j):Nat):Int):=by rw [zw _ ud];omega
 have BX:¬((j:Int)=(l.length:Int)):=ud;have BY:¬cap=j:=ud;have Cg:i<=cap:=ud;have ND:j<=cap:=ud;have Jk:i<=l.length:=ud;have hl2len:(l.take i++l2).length=i+l2.length:=by rw [List.length_append,Ci]
 by_cases EW:i+l2.length+(l.length - j)<=cap
 ·by_cases VF:i+l2.length<=j
  ·-- in place,no longer
   obtain ⟨w1,BK,-,C9,BC⟩:=zaX zE zbg (dT:=225) (sT:=225) Tryz.underlying225 AD Ai (w:=w.drew) (hR.heap rfl) i ud l2 ↑b2 hc2r ud l2.length (i+l2.length+(l.length - j) - i) uZ;have OV:=C9 ud;have Gb:(l.take i++l2++l.drop (i+l2.length)).length=l.length:=by rw [List.length_append,hl2len,List.length_drop];omega
   have kp:(l.take i++l2++l.drop (i+l2.length)).drop j=l.drop j:=by
        rw [List.drop_append,hl2len,List.drop_of_length_le (by rw [hl2len];exact VF),List.nil_append,List.drop_drop]
        congr 1;omega
   have C6:zM zcV 1 w1 (some (g j ())) (l.length - j) (l.drop j):=by
        have:=(OV.row zE).drop j;rw [kp,Gb] at this
        simpa using this
   obtain ⟨w2,B7,B0,-,A9⟩:=zaX zE zbg (dT:=225) (sT:=225) Tryz.underlying225 AD Ai (w:=w1.drew) (OV.heap rfl) (i+l2.length) (by rw [Gb];omega) (l.drop j) (g j ()) (zM.cells zE uf (w:=w1.drew) C6) uP (l.length - j) (l.length - j) (by rw [BJ];simp)
   have AL:(l.take i++l2++l.drop (i+l2.length)).take (i+l2.length)++l.drop j=l.take i++(l2++l.drop j):=by
        rw [List.take_left' hl2len,List.append_assoc]
   rw [AL] at B0;obtain ⟨o,hA,ho⟩:∃o,(if cap=i+l2.length+(l.length - j) then (some ↑g:Option Addr) else some ⟨g,i+l2.length+(l.length - j),none⟩)=some (g o ())/\(l.length - (i+l2.length+(l.length - j))=0\/o=(i+l2.length+(l.length - j)) * 1):=by
        by_cases h:cap=i+l2.length+(l.length - j)
        ·exact ⟨0,by rw [if_pos h], .inl ud⟩
        exact ⟨_,by rw [if_neg h], .inr ud⟩
   obtain ⟨w3,KV,Gv,CA⟩:=zbe uf (t:=225) (z:=π none) Tryz.underlying225 (fun w=> by simp [zeroValue,typeInfo,AD,AG]) rfl (fun u hu=> by simp [Value.cells] at hu;subst hu;rfl) B0 (i+l2.length+(l.length - j)) (l.length - (i+l2.length+(l.length - j))) (by rw [BG];exact zl) ud o ho
   have Af:=Gv.own zE Bc;rw [BG] at Af;have hg:w.grownBy w3 (some g):=(((show zcN g w w1 from ⟨BC.os,BC.tape,BC.output,BC.size,BC.block⟩).trans (show zcN g w1 w2 from ⟨A9.os,A9.tape,A9.output,A9.size,A9.block⟩)).trans CA).grown;have HR:=zh (zn Af (show w.grownBy w3 (some g) from ⟨hg.os,hg.tape,hg.output,hg.size,hg.block⟩));simp only [Nat.mul_one] at BK B7 KV;rw [BJ] at B7;have CR:¬cap=i:=ud;have NE:¬cap=i+l2.length:=ud;have kP:i+l2.length+(l.length - j) - (i+l2.length)=l.length - j:=ud;have kQ:¬((cap:Int) < ((i+l2.length+(l.length - j):Nat):Int)):=ud;have ac:((i+l2.length:Nat):Int)<=(j:Int):=ud;have Ta:i<=i+l2.length+(l.length - j):=ud;have Tb:i+l2.length<=i+l2.length+(l.length - j):=ud;have ab:i+l2.length+(l.length - j)<=l.length:=ud;have Tc:j<=l.length:=ud;clear h hR E6 EG C9 OV B0 Gv BC A9 CA hc2r Af AL AD AG Ai Ax Ci BF Bc h2 Ae Bd hb2s Aj kp Gb C6 BG hl2len ho hg;generalize hd:l.length - j=dj at *;generalize hn:l.length=n at *;generalize hm:l2.length=m at *;generalize Uj:i+m+dj=tot at *;generalize kF:i+m=im at *;go_in;go_wp2_with fail
   go_region
   go_wp2_with (at_builtin;refine zaE rfl _ _ _ _ rfl (BK _ _ _) ?_)
   go_region_law (refine zaY rfl _ _ 225 225 rfl _ _ uO uX (B7 _ _ _) ?_)
   go_wp2;go_ret;exact ⟨_,rfl,HR.out⟩
  -- in place,longer
  have De:i+l2.length<=l.length:=ud;obtain ⟨w1,BK,C9,-,BC⟩:=zaX zE zbg (dT:=225) (sT:=225) Tryz.underlying225 AD Ai (w:=w.drew.drew) (hR.heap rfl) (i+l2.length) De (l.drop j) (g j ()) (zM.cells zE uf (w:=w.drew.drew) EG) uP (l.length - j) (l.length - j) (by rw [BJ];simp)
  have Gb:(l.take (i+l2.length)++l.drop j).length=i+l2.length+(l.length - j):=by rw [List.length_append,List.length_take,BJ];omega
  have hc2w:∀t u,(zB zcV l2)[t]? =some u->w1 ((↑b2:Addr).add t)=some u:=fun t u hu=> by
       rw [<- hc2r t u hu,zdt];simp only [World.cell?];rw [BC.block b2 (fun e=> G6 e.symm)]
       rfl
  obtain ⟨w2,B7,-,B0,A9⟩:=zaX zE zbg (dT:=225) (sT:=225) Tryz.underlying225 AD Ai C9 i (by rw [Gb];omega) l2 ↑b2 hc2w ud l2.length (i+l2.length+(l.length - j) - i) uZ
  have OW:=B0 (by rw [Gb];omega)
  have AL:(l.take (i+l2.length)++l.drop j).take i++l2++(l.take (i+l2.length)++l.drop j).drop (i+l2.length)=l.take i++(l2++l.drop j):=by
       rw [List.drop_left' (by rw [List.length_take];omega),List.take_append_of_le_length (by rw [List.length_take];omega),List.take_take,Nat.min_eq_left ud,List.append_assoc]
  rw [AL] at OW;have Af:=OW.own zE Bc;rw [BG] at Af;have hg:w.grownBy w2 (some g):=((show zcN g w w1 from ⟨BC.os,BC.tape,BC.output,BC.size,BC.block⟩).trans A9).grown;have HR:=zh (zn Af hg);obtain ⟨curg,Nv,Nw,-⟩:=hR.ex;have II:=fun la va lb vc=> zjg (w:=w.drew) Ae Nv G6 Bd (i+l2.length) la va lb vc;simp only [Nat.mul_one] at BK B7;rw [BJ] at BK;have CR:¬cap=i:=ud;have NE:¬cap=i+l2.length:=ud;have kP:i+l2.length+(l.length - j) - (i+l2.length)=l.length - j:=ud;have kQ:¬((cap:Int) < ((i+l2.length+(l.length - j):Nat):Int)):=ud;have ac:¬((i+l2.length:Nat):Int)<=(j:Int):=ud;have Ta:i<=i+l2.length+(l.length - j):=ud;have Tb:i+l2.length<=i+l2.length+(l.length - j):=ud;have Tc:j<=l.length:=ud;clear h hR E6 EG C9 B0 OW BC A9 hc2r hc2w Af AL AD AG Ai Ax Ci BF Bc h2 Ae Bd hb2s Aj Gb BG hl2len hg Nv Nw;generalize hd:l.length - j=dj at *;generalize hn:l.length=n at *;generalize hm:l2.length=m at *;generalize Uj:i+m+dj=tot at *;generalize kF:i+m=im at *;go_in;go_wp2_with fail
  go_region
  go_wp2_with (simp only [II])
  go_region_law (refine zaY rfl _ _ 225 225 rfl _ _ uO uX (BK _ _ _) ?_)
  go_wp2_with (at_builtin;refine zaE rfl _ _ _ _ rfl (B7 _ _ _) ?_)
  go_ret;exact ⟨_,rfl,HR.out⟩
 -- a new row
 obtain ⟨cap1,w1,BK,C9,F9,Aa,FZ⟩:=zeD zE uf (t:=225) (tn:=3) (kq:= .i64) (kn:= .i64) Tryz.underlying225 Tryz.underlying3 AD AG Ai Ax rfl (w:=w.drew) (hR.heap rfl) i ud (i+l2.length+(l.length - j) - i) ud ud ud ud;have E7:θ w w w1:=⟨Aa.os,Aa.tape,Aa.output,Aa.size,Aa.block⟩;have N4:↑w1=w.heap.size+1:=FZ;have hc2w:∀t u,(zB zcV l2)[t]? =some u->w1 ((↑b2:Addr).add t)=some u:=fun t u hu=> by
  rw [<- hc2r t u hu,zdt];exact E7.cell (p:=(b2 (0+t) ())) hb2s
 obtain ⟨w2,B7,B0,-,A9⟩:=zaX zE zbg (dT:=225) (sT:=225) Tryz.underlying225 AD Ai C9 i (by rw [Ci];exact zl) l2 ↑b2 hc2w ud l2.length (i+l2.length+(l.length - j) - i) uZ
 have K0:zM zcV 1 w2.drew (some (g j ())) (l.length - j) (l.drop j):=by
  refine EG.same (S:=fun j=> j=g) (fun b' o' e'=> by cases e';rfl) (fun j hj=> ?_)
  subst hj;exact (A9.block j ubb).trans (E7.block j BF)
 have DJ:((l.take i).take i++l2).length=i+l2.length:=by rw [List.take_take,Nat.min_self];exact hl2len
 obtain ⟨w3,KV,Gv,-,CA⟩:=zaX zE zbg (dT:=225) (sT:=225) Tryz.underlying225 AD Ai (w:=w2.drew) (B0.heap rfl) (i+l2.length) (by rw [DJ];exact zl) (l.drop j) (g j ()) (zM.cells zE uf K0) uP (l.length - j) (l.length - j) (by rw [BJ];simp)
 have AL:((l.take i).take i++l2).take (i+l2.length)++l.drop j=l.take i++(l2++l.drop j):=by
  rw [zk (by rw [DJ];exact zl),List.take_take,Nat.min_self,List.append_assoc]
 rw [AL] at Gv;have Af:=Gv.own zE (show B<=w.drew.heap.size from hB);rw [BG] at Af;have hg:w.grownBy w3 (some g):=⟨CA.os.trans (A9.os.trans Aa.os),CA.tape.trans (A9.tape.trans Aa.tape),CA.output.trans (A9.output.trans Aa.output),by rw [CA.size];show ↑w<=w2.heap.size;rw [A9.size,N4];omega,fun j hj Aj=> by
  rw [CA.block j ubb];exact (A9.block j ubb).trans (E7.block j hj)⟩
 have HR:=zh (zn Af hg);have LB:IntKind.i64.wrap (((i+l2.length+(l.length - j):Nat):Int) - (i:Int))=((i+l2.length+(l.length - j) - i:Nat):Int):=by rw [zw _ ud];omega
 simp only [Nat.mul_one] at BK B7 KV;rw [BJ] at KV;have Pl:w.drew.heap.size=w.heap.size:=rfl;rw [Pl] at BK B7 KV HR;clear Pl;have Td:i+(i+l2.length+(l.length - j) - i)=i+l2.length+(l.length - j):=ud;rw [Td] at BK F9;have CR:¬cap1=i:=ud;have NE:¬cap1=i+l2.length:=ud;have kP:i+l2.length+(l.length - j) - (i+l2.length)=l.length - j:=ud;have kQ:(cap:Int) < ((i+l2.length+(l.length - j):Nat):Int):=ud;have Ta:i<=i+l2.length+(l.length - j):=ud;have Tb:i+l2.length<=i+l2.length+(l.length - j):=ud;have Tc:j<=l.length:=ud;clear h hR E6 EG C9 B0 Gv A9 CA Aa E7 hc2r hc2w Af AL AD AG Ai Ax Ci Bc h2 Ae Bd hb2s Aj DJ BG hl2len hg K0 FZ N4 Td;generalize hd:l.length - j=dj at *;generalize hn:l.length=n at *;generalize hm:l2.length=m at *;generalize Uj:i+m+dj=tot at *;generalize kF:i+m=im at *;go_in;go_wp2_with fail
 go_region
 go_wp2_with (first
  | (at_builtin;refine za8 rfl _ _ _ _ rfl (BK _) ?_)
  | (at_builtin;refine zaE rfl _ _ _ _ rfl (B7 _ _ _) ?_))
 go_region_law (refine zaY rfl _ _ 225 225 rfl _ _ uO uX (KV _ _ _) ?_)
 go_wp2;go_ret;exact ⟨_,rfl,HR.out⟩
end
end Go.Proofs.YtaoceecfjlkmdaaGreat
