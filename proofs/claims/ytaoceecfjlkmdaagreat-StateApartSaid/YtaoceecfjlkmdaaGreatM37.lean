/- Lemmas of the walks, merged and pressed by press.py. Conditions: those of each theorem. -/
import Derived.Test.YtaoceecfjlkmdaaGreatM9
import Derived.Test.YtaoceecfjlkmdaaGreatM3
import Derived.Test.YtaoceecfjlkmdaaGreatM6
set_option maxRecDepth 100000
set_option maxHeartbeats 64000000
set_option linter.all false
namespace Go.Proofs.YtaoceecfjlkmdaaGreat
open Tryz
section
open Go.RowKit
set_option maxRecDepth 100000
set_option maxHeartbeats 16000000
theorem rdA {W:World} {b:Nat} {r:Array Value} {t:TypeId} (h:W.heap[b]? =some (.cells r t (0,0))) (i:Nat):W.cell? ⟨b,i,none⟩=r[i]? /\W.frozen? ⟨b,i,none⟩=false:=by simp [World.cell?,World.frozen?,h]
section
variable {P:Program} {ops:Array Oper} {Q:Exit→Act→World→Prop} {md:Region.Mode} {S:World→Prop} {a a':Act} {w:World} {d:Option Nat} {oi:Oper} {v:Value} {n m f:Nat} {e:List Nat}
def pre (k n:Nat) (e:List Nat):Array Bool:=((List.range k).map fun j=> decide (j < n) || e.contains j).toArray
theorem zoM {k n:Nat} (h:n < k):(pre k n e).setIfInBounds n true=pre k (n+1) e:=by
 apply Array.ext
 ·simp [pre]
 intro i h1 h2
 by_cases c:n=i
 ·subst c;simp [pre]
 simp [pre,c,show (i < n+1)=(i < n) from propext ⟨fun _=> by omega,fun _=> by omega⟩]
theorem zoN {k n i:Nat} (_:i < k):(pre k n e).setIfInBounds i true=pre k n (i::e):=by
 apply Array.ext
 ·simp [pre]
 intro j h1 h2
 by_cases c:i=j
 ·subst c;simp [pre]
 simp [pre,c,Ne.symm c]
def zjy (P:Program) (md:Region.Mode) (ops:Array Oper) (Q:Exit->Act->World->Prop) (S:World->Prop) (e:List Nat) (n f:Nat):Act->World->Prop:=ze2 P md ops Q (fun _ w=> S w) f (pre ops.size n e)
theorem rg {id:Nat} (S:World->Prop) (h:S w.drew->zjy P .any ops Q S [] 0 ops.size a w.drew) (hS:S w.drew) (hm:P.follows .mixedOrders=true:=by kernel_rfl):(Code.region id ops true).wp P Q a w:=
 wp_region_any hm (zjG _ _ _ _ (by
  have c:Array.replicate ops.size false=pre ops.size 0 []:=by apply Array.ext <;> simp [pre]
  rw [c];exact h hS))
theorem zmk (hn:n < ops.size) (hm:n+1=m) {o:Oper} (hr:Region.ready md ops (pre ops.size n e)= [n]) (ho:ops[n]? =some o)
 (h:∀K':Act->World->Prop,Shut (∀a w,S w->zjy P md ops Q S e m f a w->K' a w)->if Region.wanted o (yielded ops a.tmps)=true then Oper.wp P o a w K' Q else K' (a.put o.dst undef) w):zjy P md ops Q S e n (f+1) a w:=by
 subst hm;unfold zjy at *;refine zd hr ho fun K' hK=> h K' ?_;rw [<- zoM hn];exact hK
theorem sk (h:zjy P md ops Q S e m f a w) (hm:n+1=m:=by (try simp only [Nat.reduceAdd]);rfl) (hn:e.contains n=true:=by rfl):zjy P md ops Q S e n f a w:=by
 subst hm;have c:pre ops.size n e=pre ops.size (n+1) e:=by
  apply Array.ext
  ·simp [pre]
  intro i h1 h2
  by_cases c:n=i
  ·subst c;simp at hn;simp [pre,hn]
  simp [pre,show (i < n+1)=(i < n) from propext ⟨fun _=> by omega,fun _=> by omega⟩]
 unfold zjy at *;rw [c];exact h
def tkB (md:Region.Mode) (ops:Array Oper) (e:List Nat) (n:Nat):Bool:=
 decide (n < ops.size) && Region.noSelect ops && Region.free md ops (pre ops.size n e) n && (Region.ready md ops (pre ops.size n e)).contains n && zl4 md ops (pre ops.size n e)
theorem tk (h:zjy P md ops Q S e m f a' w) (hi:ops[n]? =some oi:=by rfl) (hm:n+1=m:=by (try simp only [Nat.reduceAdd]);rfl) (hS:S w:=by assumption)
 (hb:tkB md ops e n=true:=by kernel_rfl) (hw:Region.wanted oi (yielded ops a.tmps)=true:=by rfl) (hy:∀w',S w'->(execOp a.eval oi).run P w'= .ok (.value v) w':=by (intro w' O4;(repeat (have yo:=And.left O4;replace O4:=And.right O4));go_simp;try with_reducible rfl))
 (ha:a.put oi.dst v=a':=by (try simp only [Act.put,List.getElem_toArray,List.getElem_cons_zero,List.getElem_cons_succ,zSs]);try rfl) (hQ:∀c a w,Q (.panic c) (a.put oi.dst v) w->Q (.panic c) a w:=by exact fun _ _ _ h=> h):zjy P md ops Q S e n (f+1) a w:=by
 subst ha hm;simp only [tkB,Bool.and_eq_true] at hb;obtain ⟨⟨⟨⟨hn,hs⟩,hf⟩,hr⟩,hc⟩:=hb;have hn:=of_decide_eq_true hn;unfold zjy at *;rw [<- zoM hn] at h;exact zf5 (f:=0) (S:=S) hi (Region.noSelect_spec hs) hQ (fun w hw=> hw) _ _ a w (Region.free_spec hi hf) (fun _=> .inr (.inr fun _ h=> h)) (zeq hc) (by simpa using hr) (.inl ⟨hw,hy⟩) hS h
theorem cl {g:FuncId} {args:Array Value} {R:Ending->World->Prop} (hc:Calls P g args w R) {fn:Func} {c:Code} {xs:Array Operand} {ts:Array TypeId}
 (h:∀e' w',R e' w'->∃v,e'= .returned v/\S w'/\(S w'->zjy P md ops Q S e m f (a.put d v) w'))
 (hi : ops[n]? = some oi := by rfl) (ho : oi.op = .call { callee := .value (.func g), args := xs, argTypes := ts } := by rfl) (hm : n + 1 = m := by (try simp only [Nat.reduceAdd]); rfl) (hn : Nat.blt n ops.size = true := by kernel_rfl) (hr : Region.ready md ops (pre ops.size n e) = [n] := by kernel_rfl) (hd : oi.dst = d := by rfl) (hw : Region.wanted oi (yielded ops a.tmps) = true := by kernel_rfl) (hf : P.funcs[g]? = some fn := by rfl) (TB : (fn.name == "runtime.NumGoroutine") = false := by kernel_rfl) (hb : fn.body = some c := by rfl)
 (Sb:xs.map a.eval=args:=by first | (simp [Act.eval];done) | (simp [Act.eval,Act.put];done)):zjy P md ops Q S e n (f+1) a w:=by
 subst hd;exact zmk (by simpa using hn) hm hr hi fun K' hK=> zA hw g hf TB hb xs ts ho args Sb hc fun e w' hR=> by
  obtain ⟨v,e1,h1,h2⟩:=h e w' hR;exact ⟨v,e1,hK.out _ _ h1 (h2 h1)⟩
theorem so {w':World} (h:∀w2,w2=w'->S w2/\(S w2->zjy P md ops Q S e m f a' w2))
 (hi:ops[n]? =some oi:=by rfl) (hm:n+1=m:=by (try simp only [Nat.reduceAdd]);rfl) (hn:Nat.blt n ops.size=true:=by kernel_rfl) (hr:Region.ready md ops (pre ops.size n e)= [n]:=by kernel_rfl) (hw:Region.wanted oi (yielded ops a.tmps)=true:=by kernel_rfl)
 (hy:(execOp a.eval oi).run P w= .ok (.value v) w':=by (go_simp;try with_reducible (first | rfl | exact ⟨rfl,rfl⟩)))
 (ha:a.put oi.dst v=a':=by (try simp only [Act.put,List.getElem_toArray,List.getElem_cons_zero,List.getElem_cons_succ,zSs]);try rfl):zjy P md ops Q S e n (f+1) a w:=by
 subst ha;exact zmk (by simpa using hn) hm hr hi fun K' hK=> by
  rw [if_pos hw];unfold Oper.wp;rw [hy];exact hK.out _ _ (h _ rfl).1 ((h _ rfl).2 (h _ rfl).1)
theorem su {w':World} (h:∀w2,w2=w'->S w2/\(S w2->zjy P md ops Q S e m f a w2))
 (hi:ops[n]? =some oi:=by rfl) (hm:n+1=m:=by (try simp only [Nat.reduceAdd]);rfl) (hn:Nat.blt n ops.size=true:=by kernel_rfl) (hr:Region.ready md ops (pre ops.size n e)= [n]:=by kernel_rfl) (hd:oi.dst=none:=by rfl) (hw:Region.wanted oi (yielded ops a.tmps)=true:=by kernel_rfl)
 (hy:(execOp a.eval oi).run P w= .ok .skip w':=by (go_simp;try with_reducible rfl)):zjy P md ops Q S e n (f+1) a w:=by
 exact zmk (by simpa using hn) hm hr hi fun K' hK=> by
  rw [if_pos hw];unfold Oper.wp;rw [hy];refine hK.out _ _ (h _ rfl).1 ?_;rw [hd];exact (h _ rfl).2 (h _ rfl).1
theorem ca (j:Nat) {g:FuncId} {args:Array Value} {R:Ending->World->Prop} (hc:Calls P g args w R) {fn:Func} {c:Code} {xs:Array Operand} {ts:Array TypeId} {oj:Oper} {w':World}
 (h:∀e' w',R e' w'->∃v,e'= .returned v/\S w'/\(S w'->zjy P md ops Q S e m f (a.put d v) w'))
 (h':∀w2,w2=w'->S w2/\(S w2->zjy P md ops Q S (j::e) n f a' w2))
 (hi : ops[n]? = some oi := by rfl) (ho : oi.op = .call { callee := .value (.func g), args := xs, argTypes := ts } := by rfl) (hm : n + 1 = m := by (try simp only [Nat.reduceAdd]); rfl) (hn : (Nat.blt n ops.size && Nat.blt j ops.size) = true := by kernel_rfl) (hr : Region.ready md ops (pre ops.size n e) = [n, j] := by kernel_rfl) (hd : oi.dst = d := by rfl) (hw : Region.wanted oi (yielded ops a.tmps) = true := by kernel_rfl) (hf : P.funcs[g]? = some fn := by rfl) (TB : (fn.name == "runtime.NumGoroutine") = false := by kernel_rfl) (hb : fn.body = some c := by rfl)
 (Sb:xs.map a.eval=args:=by first | (simp [Act.eval];done) | (simp [Act.eval,Act.put];done))
 (hj:ops[j]? =some oj:=by rfl) (dM:Region.wanted oj (yielded ops a.tmps)=true:=by kernel_rfl)
 (hy:(execOp a.eval oj).run P w= .ok (.value v) w':=by (go_simp;try with_reducible (first | rfl | exact ⟨rfl,rfl⟩)))
 (ha:a.put oj.dst v=a':=by (try simp only [Act.put,List.getElem_toArray,List.getElem_cons_zero,List.getElem_cons_succ,zSs]);try rfl):zjy P md ops Q S e n (f+1) a w:=by
 subst hd ha hm;simp only [Bool.and_eq_true,Nat.blt_eq] at hn;unfold zjy at *;refine zbq hr hi hj (fun K' hK=> zA hw g hf TB hb xs ts ho args Sb hc fun e w' hR=> ?_) fun K' hK=> ?_
 ·obtain ⟨v,e1,h1,h2⟩:=h e w' hR;refine ⟨v,e1,hK.out _ _ h1 ?_⟩;rw [zoM hn.1];exact h2 h1
 rw [if_pos dM];unfold Oper.wp;rw [hy];refine hK.out _ _ (h' _ rfl).1 ?_;rw [zoN hn.2];exact (h' _ rfl).2 (h' _ rfl).1
theorem rz (h:Q .normal a w) (hr:Region.ready md ops (pre ops.size n e)= []:=by kernel_rfl):zjy P md ops Q S e n f a w:=zI hr h _
end
end
end Go.Proofs.YtaoceecfjlkmdaaGreat
