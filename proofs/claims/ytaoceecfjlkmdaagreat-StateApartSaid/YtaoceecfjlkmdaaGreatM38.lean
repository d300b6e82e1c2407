/- Lemmas of the walks, merged and pressed by press.py. Conditions: those of each theorem. -/
import Derived.Test.YtaoceecfjlkmdaaGreatM37
set_option maxRecDepth 100000
set_option maxHeartbeats 64000000
set_option linter.all false
namespace Go.Proofs.YtaoceecfjlkmdaaGreat
open Tryz
section
open Go.RowKit
set_option maxRecDepth 100000
section
variable {P:Program} {ops:Array Oper} {Q:Exit→Act→World→Prop} {md:Region.Mode} {S:World→Prop} {a a' a'':Act} {w:World} {d:Option Nat} {oi oj:Oper} {v u:Value} {n m f:Nat} {e:List Nat}
def teB (md:Region.Mode) (ops:Array Oper) (e:List Nat) (n j:Nat):Bool:=
 decide (j < ops.size) && Region.noSelect ops && Region.free md ops (pre ops.size n e) j && (Region.ready md ops (pre ops.size n e)).contains j && zl4 md ops (pre ops.size n e)
theorem te (j:Nat) (h:zjy P md ops Q S (j::e) n f a' w) (hi:ops[j]? =some oi:=by rfl) (hS:S w:=by assumption)
 (hb:teB md ops e n j=true:=by kernel_rfl) (hw:Region.wanted oi (yielded ops a.tmps)=true:=by rfl) (hy:∀w',S w'->(execOp a.eval oi).run P w'= .ok (.value v) w':=by (intro w' O4;(repeat (have yo:=And.left O4;replace O4:=And.right O4));go_simp;try with_reducible rfl))
 (ha:a.put oi.dst v=a':=by (try simp only [Act.put,List.getElem_toArray,List.getElem_cons_zero,List.getElem_cons_succ,zSs]);try rfl) (hQ:∀c a w,Q (.panic c) (a.put oi.dst v) w->Q (.panic c) a w:=by exact fun _ _ _ h=> h):zjy P md ops Q S e n (f+1) a w:=by
 subst ha;simp only [teB,Bool.and_eq_true] at hb;obtain ⟨⟨⟨⟨hn,hs⟩,hf⟩,hr⟩,hc⟩:=hb;have hn:=of_decide_eq_true hn;unfold zjy at *;rw [<- zoN hn] at h;exact zf5 (f:=0) (S:=S) hi (Region.noSelect_spec hs) hQ (fun w hw=> hw) _ _ a w (Region.free_spec hi hf) (fun _=> .inr (.inr fun _ h=> h)) (zeq hc) (by simpa using hr) (.inl ⟨hw,hy⟩) hS h
theorem zoP {x y:Operand} {t:TypeId} {s z v':Value} {w':World} (ho:oi.op= .call {callee:= .builtin .append,args:=#[x,y],argTypes:=#[t,t]}) (hx:a.eval x=s) (hz:a.eval y=z) (ht:oi.type=t)
 (hr:(Builtin.append_ #[t,t] t #[s,z]).run P w= .ok v' w'):(execOp a.eval oi).run P w= .ok (.value v') w':=by
 subst hx hz ht;unfold execOp;simp only [ho,resolve,invoke,builtin,Sem.run_bind,Sem.run_pure,Result.andThen_ok,List.map_toArray,List.map_cons,List.map_nil,hr]
theorem ap {x y:Operand} {t:TypeId} {s z v':Value} {w':World} (hr:(Builtin.append_ #[t,t] t #[s,z]).run P w= .ok v' w') (h:S w'/\(S w'->zjy P md ops Q S e m f a' w'))
 (hi:ops[n]? =some oi:=by rfl) (ho:oi.op= .call {callee:= .builtin .append,args:=#[x,y],argTypes:=#[t,t]}:=by rfl) (hx:a.eval x=s:=by rfl) (hz:a.eval y=z:=by rfl) (ht:oi.type=t:=by rfl) (hm:n+1=m:=by (try simp only [Nat.reduceAdd]);rfl) (hn:Nat.blt n ops.size=true:=by kernel_rfl) (Dn:Region.ready md ops (pre ops.size n e)= [n]:=by kernel_rfl) (hw:Region.wanted oi (yielded ops a.tmps)=true:=by kernel_rfl)
 (ha:a.put oi.dst v'=a':=by (try simp only [Act.put,List.getElem_toArray,List.getElem_cons_zero,List.getElem_cons_succ,zSs]);try rfl):zjy P md ops Q S e n (f+1) a w:=by
 subst ha;exact zmk (by simpa using hn) hm Dn hi fun K' hK=> by
  rw [if_pos hw];unfold Oper.wp;rw [zoP ho hx hz ht hr];exact hK.out _ _ h.1 (h.2 h.1)
theorem s2 (j:Nat) {w' w'':World} (h:∀w2,w2=w'->S w2/\(S w2->zjy P md ops Q S e m f a' w2)) (h':∀w2,w2=w''->S w2/\(S w2->zjy P md ops Q S (j::e) n f a'' w2))
 (hi:ops[n]? =some oi:=by rfl) (hj:ops[j]? =some oj:=by rfl) (hm:n+1=m:=by (try simp only [Nat.reduceAdd]);rfl) (hn:(Nat.blt n ops.size && Nat.blt j ops.size)=true:=by kernel_rfl) (hr:Region.ready md ops (pre ops.size n e)= [n,j]:=by kernel_rfl)
 (hw:Region.wanted oi (yielded ops a.tmps)=true:=by kernel_rfl) (dM:Region.wanted oj (yielded ops a.tmps)=true:=by kernel_rfl)
 (hy:(execOp a.eval oi).run P w= .ok (.value v) w':=by (go_simp;try with_reducible (first | rfl | exact ⟨rfl,rfl⟩))) (qv:(execOp a.eval oj).run P w= .ok (.value u) w'':=by (go_simp;try with_reducible (first | rfl | exact ⟨rfl,rfl⟩)))
 (ha:a.put oi.dst v=a':=by (try simp only [Act.put,List.getElem_toArray,List.getElem_cons_zero,List.getElem_cons_succ,zSs]);try rfl)
 (j8:a.put oj.dst u=a'':=by (try simp only [Act.put,List.getElem_toArray,List.getElem_cons_zero,List.getElem_cons_succ,zSs]);try rfl):zjy P md ops Q S e n (f+1) a w:=by
 subst ha j8 hm;simp only [Bool.and_eq_true,Nat.blt_eq] at hn;unfold zjy at *;refine zbq hr hi hj (fun K' hK=> ?_) fun K' hK=> ?_
 ·rw [if_pos hw];unfold Oper.wp;rw [hy];refine hK.out _ _ (h _ rfl).1 ?_;rw [zoM hn.1];exact (h _ rfl).2 (h _ rfl).1
 rw [if_pos dM];unfold Oper.wp;rw [qv];refine hK.out _ _ (h' _ rfl).1 ?_;rw [zoN hn.2];exact (h' _ rfl).2 (h' _ rfl).1
end
theorem zqU (w:World) (r:Array Value) (t:TypeId):∃w1,w1=w.alloc (.cells r t)/\Below w.heap.size w w1/\w1.heap.size=w.heap.size+1/\∀W,Below w1.heap.size w1 W->∀i,W.cell? ⟨w.heap.size,i,none⟩=r[i]? /\W.frozen? ⟨w.heap.size,i,none⟩=false:=
 ⟨_,rfl,zr.alloc zl _,by show (w.heap.push _).size=_;rw [Array.size_push],fun W hW=> rdA ((hW.block _ (by show w.heap.size < (w.heap.push _).size;rw [Array.size_push];exact Nat.lt_succ_self _)).trans (heap_alloc_new w _))⟩
end
end Go.Proofs.YtaoceecfjlkmdaaGreat
