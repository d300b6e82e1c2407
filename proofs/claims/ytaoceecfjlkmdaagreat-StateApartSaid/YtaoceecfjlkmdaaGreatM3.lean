/- Lemmas of the walks, merged and pressed by press.py. Conditions: those of each theorem. -/
import Derived.Maps.Range
import Derived.Maps.Own
import Derived.Maps.OwnSet
import Derived.Test.YtaoceecfjlkmdaaGreatM2
import Derived.Test.YtaoceecfjlkmdaaGreatM1
import Derived.Lib.AppendZerosOnto
import Derived.Laws.CopyRow
set_option maxRecDepth 100000
set_option maxHeartbeats 64000000
set_option linter.all false
namespace Go.Proofs.YtaoceecfjlkmdaaGreat
open Tryz
variable {l:List En} {F:List Nat} {B b c cap clock g j k m n s x:Nat} {P:Program} {e:TypeId} {v:Value} {w w' w1 w2:World}
section
open Go.RowKit Go.Maps Go.ChangeMaps
abbrev Uc:=Nat × Nat
def UIn (p:Uc):Prop:=p.1 < 4294967296/\p.2<=1000000000
def uV (x:Nat):Value:= ν x
theorem znw {u:Nat} (h:uV s=uV u):s=u:=by
 unfold uV at h
 injection h with _ h
 omega
theorem zmL:Keyed prog 73:=int_keyed Tryz.underlying73
theorem wfU (h:x < 4294967296):(Lit.int .u32 (x:Int)).wf=true:=by simp [Lit.wf,IntKind.min,IntKind.max,IntKind.signed,IntKind.bits];omega
theorem zfq {x:Nat} (h:x < 4294967296):keyOf Tryz.prog 73 (uV x)=some (.int .u32 (x:Int)):=keyOf_int_mk Tryz.underlying73 (wfU h)
def zan:List Uc->Nat->Nat
 | [],_=> 0
 | p::L,s=> if p.1=s then p.2 else zan L s
def zbV:List Uc->Nat->Nat->List Uc
 | [],s,v=> [(s,v)]
 | p::L,s,v=> if p.1=s then (s,v)::L else p::zbV L s v
def zet:List Uc->Nat->List Uc
 | [],_=> []
 | p::L,s=> if p.1=s then L else p::zet L s
theorem zfe:∀{L:List Uc} {s:Nat},(∀p ∈ L,p.1≠s)->zan L s=0
 | [],_,_=> rfl
 | p::L,s,h=> by
   unfold zan;rw [if_neg (h p uh),zfe (fun q hq=> h q (by simp [hq]))]
theorem zif:∀{L:List Uc} {s:Nat} (v:Nat),(∀p ∈ L,p.1≠s)->zbV L s v=L++ [(s,v)]
 | [],_,_,_=> rfl
 | p::L,s,v,h=> by
   unfold zbV;rw [if_neg (h p uh),zif v (fun q hq=> h q (by simp [hq]))]
   rfl
theorem zhI:∀{L:List Uc} {s:Nat},(∀p ∈ L,p.1≠s)->zet L s=L
 | [],_,_=> rfl
 | p::L,s,h=> by
   unfold zet;rw [if_neg (h p uh),zhI (fun q hq=> h q (by simp [hq]))]
theorem zl8:∀{L:List Uc} {j:Nat} {p:Uc},(L.map (·.1)).Nodup->L[j]? =some p->zan L p.1=p.2
 | [],_,_,_,h=> by simp at h
 | q::L,0,p,_,h=> by
   simp only [List.getElem?_cons_zero,Option.some.injEq] at h;subst h;simp [zan]
 | q::L,j+1,p,hn,h=> by
   simp only [List.getElem?_cons_succ] at h;simp only [List.map_cons,List.nodup_cons] at hn;have Aj:q.1≠p.1:=fun e=> hn.1 (List.mem_map.2 ⟨p,zm h,e.symm⟩);unfold zan;rw [if_neg Aj,zl8 hn.2 h]
theorem zni:∀{L:List Uc} {j:Nat} {p:Uc} (v:Nat),(L.map (·.1)).Nodup->L[j]? =some p->zbV L p.1 v=L.set j (p.1,v)
 | [],_,_,_,_,h=> by simp at h
 | q::L,0,p,v,_,h=> by
   simp only [List.getElem?_cons_zero,Option.some.injEq] at h;subst h;simp [zbV]
 | q::L,j+1,p,v,hn,h=> by
   simp only [List.getElem?_cons_succ] at h;simp only [List.map_cons,List.nodup_cons] at hn;have Aj:q.1≠p.1:=fun e=> hn.1 (List.mem_map.2 ⟨p,zm h,e.symm⟩);unfold zbV;rw [if_neg Aj,zni v hn.2 h]
   rfl
theorem zmb:∀{L:List Uc} {j:Nat} {p:Uc},(L.map (·.1)).Nodup->L[j]? =some p->zet L p.1=L.eraseIdx j
 | [],_,_,_,h=> by simp at h
 | q::L,0,p,_,h=> by
   simp only [List.getElem?_cons_zero,Option.some.injEq] at h;subst h;simp [zet]
 | q::L,j+1,p,hn,h=> by
   simp only [List.getElem?_cons_succ] at h;simp only [List.map_cons,List.nodup_cons] at hn;have Aj:q.1≠p.1:=fun e=> hn.1 (List.mem_map.2 ⟨p,zm h,e.symm⟩);unfold zet;rw [if_neg Aj,zmb hn.2 h]
   rfl
def kvE (e:MapEntry):Value × Value:=(e.key,e.val)
def kvU (p:Uc):Value × Value:=(uV p.1,ι p.2)
structure zds (es:List MapEntry) (L:List Uc):Prop where
 eq:es.map kvE=L.map kvU
 ok:∀p ∈ L,UIn p
theorem zds.at {es:List MapEntry} {L:List Uc} (h:zds es L)  {e:MapEntry} (he:es[j]? =some e):∃p,L[j]? =some p/\e.key=uV p.1/\e.val= ι p.2:=by
 have h1:=congrArg (fun l=> l[j]?) h.eq;simp only [List.getElem?_map,he,Option.map_some] at h1
 cases hp:L[j]? with
 | none=> rw [hp] at h1;cases h1
 | some p=>
   rw [hp] at h1;simp only [Option.map_some,Option.some.injEq,kvE,kvU,Prod.mk.injEq] at h1;exact ⟨p,rfl,h1.1,h1.2⟩
theorem zds.mem {es:List MapEntry} {L:List Uc} (h:zds es L) {e:MapEntry} (he:e ∈ es):∃p ∈ L,e.key=uV p.1/\e.val= ι p.2:=by
 obtain ⟨j,hj⟩:=List.getElem?_of_mem he;obtain ⟨p,hp,h1,h2⟩:=h.at hj;exact ⟨p,zm hp,h1,h2⟩
theorem zds.mem' {es:List MapEntry} {L:List Uc} (h:zds es L) {p:Uc} (hp:p ∈ L):∃e ∈ es,e.key=uV p.1/\e.val= ι p.2:=by
 have:kvU p ∈ es.map kvE:=by rw [h.eq];exact List.mem_map.2 ⟨p,hp,rfl⟩
 obtain ⟨e,he,h1⟩:=List.mem_map.1 this;simp only [kvE,kvU,Prod.mk.injEq] at h1;exact ⟨e,he,h1.1,h1.2⟩
def zbT (w:World) (b:Nat) (L:List Uc):Prop:=∃es clock,w.heap[b]? =some (.map es clock)/\MapKept.Stamped es clock/\zds es.toList L
theorem zbx {es:Array MapEntry}  {L:List Uc} (h:MapKept.Stamped es clock) (hr:zds es.toList L):(L.map (·.1)).Nodup:=by
 obtain ⟨-,-,h3⟩:=h;have e1:es.toList.map (·.key)=(L.map (·.1)).map uV:=by
  have:=congrArg (List.map Prod.fst) hr.eq
  simpa [List.map_map,Function.comp_def,kvE,kvU] using this
 rw [e1] at h3;exact List.Pairwise.of_map uV (fun a c h e=> h (congrArg uV e)) h3
theorem zbT.nodup {L:List Uc} (h:zbT w b L):(L.map (·.1)).Nodup:=by
 obtain ⟨es,clock,-,h1,h2⟩:=h;exact zbx h1 h2
theorem zbT.lt {L:List Uc} (h:zbT w b L):b < ↑w:=by
 obtain ⟨es,clock,h1,-⟩:=h;exact (zg h1).1
theorem zbT.heap {L:List Uc} (h:zbT w b L) (hb:w'.heap[b]? =w.heap[b]?):zbT w' b L:=by
 obtain ⟨es,clock,h1,h2⟩:=h;exact ⟨es,clock,hb.trans h1,h2⟩
theorem zbT.made (w:World):zbT (w.alloc (.map #[] 0)) ↑w []:=⟨#[],0,heap_alloc_new w _,MapKept.stamped_empty 0,rfl,uh⟩
theorem zdB {es:List MapEntry} {L:List Uc} (h:zds es L):∀e ∈ es,∃l,keyOf prog 73 e.key=some l:=fun e he=> by
 obtain ⟨p,hp,h1,-⟩:=h.mem he;exact ⟨_,by rw [h1];exact zfq (h.ok p hp).1⟩
theorem zcE {es:List MapEntry} {L:List Uc} (h:zds es L)  (h2:∀x ∈ es,x.key≠uV s):∀p ∈ L,p.1≠s:=fun p hp e=> by
 obtain ⟨x,hx,h1,-⟩:=h.mem' hp;exact h2 x hx (by rw [h1,e])
theorem zbT.look {L:List Uc} (h:zbT w b L)  (hs:s < 4294967296):
 (Instr.lookup 151 (.map (some b)) (ν s) false).run prog w= .ok (ι (zan L s:Nat)) w:=by
 obtain ⟨es,clock,h0,AO,hr⟩:=h;have Cl:=zfq hs
 show (Instr.lookup 151 (.map (some b)) (uV s) false).run prog w=_
 rcases zmL.find w Cl es.toList (zdB hr) with ⟨h1,h2⟩ | ⟨j,e0,h1,h2,h3⟩
 ·rw [zfe (zcE hr h2)];simp [Instr.lookup,run_underlying Tryz.underlying151,MapKept.run_getObj_map h0,zmL.check w _ Cl,h1,Tryz.zeroValue3 w,Result.andThen]
 obtain ⟨p,hp,hk,hv⟩:=hr.at h2;obtain rfl:=znw (hk.symm.trans h3);rw [zl8 (zbx AO hr) hp];simp [Instr.lookup,run_underlying Tryz.underlying151,MapKept.run_getObj_map h0,zmL.check w _ Cl,h1,Result.andThen,hv]
theorem zmP (hs:s < 4294967296) (w:World):(Instr.lookup 151 (.map none) (ν s) false).run prog w= .ok (ι 0) w:=by
 have:=Maps.look_nil (P:=prog) (w:=w) false zmL Tryz.underlying151 (Tryz.zeroValue3 w) (zfq hs);exact this
theorem zby (w:World) (b:Nat) (o:Obj):w.grownBy (setBlock w b o) (some b):=⟨rfl,rfl,rfl,by simp [setBlock],fun i _ hi=> by
 show (w.heap.setIfInBounds b o)[i]? =_
 rw [Array.getElem?_setIfInBounds_ne (fun e=> hi uJ)]⟩
theorem zbT.put {L:List Uc} (h:zbT w b L) {v:Nat} (hs:s < 4294967296) (hv:v<=1000000000):
 ∃w',(Instr.mapUpdate 151 (.map (some b)) (ν s) ↑v).run prog w= .ok () w'/\zbT w' b (zbV L s v)/\w.grownBy w' (some b)/\↑w'=w.heap.size:=by
 obtain ⟨es,clock,h0,AO,hr⟩:=h;have Cl:=zfq hs;rcases zmL.find w Cl es.toList (zdB hr) with ⟨h1,h2⟩ | ⟨j,e0,h1,h2,h3⟩
 ·have ha:=zcE hr h2;refine ⟨setBlock w b (.map (es.push ⟨uV s,↑v,clock⟩) (clock+1)), ?_, ?_,zby _ _ _,by simp [setBlock]⟩
  ·show (Instr.mapUpdate 151 (.map (some b)) (uV s) ↑v).run prog w=_
   simp [Instr.mapUpdate,run_underlying Tryz.underlying151,MapKept.run_getObj_map h0,zmL.check w _ Cl,h1,MapKept.run_setObj_map _ h0,Result.andThen,setBlock]
  rw [zif v ha];refine ⟨_,_,heap_setBlock_same h0 _,MapKept.stamped_push AO h2,by rw [Array.toList_push,List.map_append,hr.eq,List.map_append];rfl,fun p hp=> ?_⟩
  rcases List.mem_append.1 hp with hp | hp
  ·exact hr.ok p hp
  simp only [List.mem_singleton] at hp;rw [hp];exact ⟨hs,hv⟩
 obtain ⟨p,hp,hk,Ul⟩:=hr.at h2;obtain rfl:=znw (hk.symm.trans h3);have hj:es[j]? =some e0:=by simpa using h2
 refine ⟨setBlock w b (.map (es.modify j fun e=> {e with key:=uV p.1,val:= ι v}) clock), ?_, ?_,zby _ _ _,by simp [setBlock]⟩
 ·show (Instr.mapUpdate 151 (.map (some b)) (uV p.1) ↑v).run prog w=_
  simp [Instr.mapUpdate,run_underlying Tryz.underlying151,MapKept.run_getObj_map h0,zmL.check w _ Cl,h1,hj,h3,zmL.stays w Cl,MapKept.run_setObj_map _ h0,Result.andThen,setBlock]
 rw [zni _ (zbx AO hr) hp];refine ⟨_,_,heap_setBlock_same h0 _,MapKept.stamped_modify AO _ _ (fun _ _=> rfl) (fun e _ he=> ?_),⟨?_,fun q hq=> ?_⟩⟩
 ·rw [hj] at he;have he:=Option.some.inj he
  show uV p.1=e.key
  rw [<- he,h3]
 ·rw [Array.toList_modify,modify_eq_set _ _ _ _ h2,List.map_set,List.map_set,hr.eq]
  rfl
 rcases List.mem_or_eq_of_mem_set hq with hq | hq
 ·exact hr.ok q hq
 rw [hq];exact ⟨hs,hv⟩
theorem zef {α β:Type} (f:α->β):∀(l:List α) (j:Nat),(l.eraseIdx j).map f=(l.map f).eraseIdx j
 | [],_=> rfl
 | _::_,0=> rfl
 | x::l,j+1=> by simp [List.eraseIdx,zef f l j]
theorem zbT.del {L:List Uc} (h:zbT w b L)  (hs:s < 4294967296) (ty:TypeId):
 ∃w',(Builtin.delete_ #[151,73] ty #[.map (some b),ν s]).run prog w= .ok (.tuple #[]) w'/\zbT w' b (zet L s)/\w.grownBy w' (some b)/\↑w'=w.heap.size:=by
 obtain ⟨es,clock,h0,AO,hr⟩:=h;have Cl:=zfq hs;rcases zmL.find w Cl es.toList (zdB hr) with ⟨h1,h2⟩ | ⟨j,e0,h1,h2,h3⟩
 ·have ha:=zcE hr h2;refine ⟨setBlock w b (.map es clock), ?_, ?_,zby _ _ _,by simp [setBlock]⟩
  ·show (Builtin.delete_ #[151,73] ty #[.map (some b),uV s]).run prog w=_
   simp [Builtin.delete_,run_underlying Tryz.underlying151,MapKept.run_getObj_map h0,zmL.check w _ Cl,h1,MapKept.run_setObj_map _ h0,Result.andThen,setBlock]
  rw [zhI ha];exact ⟨_,_,heap_setBlock_same h0 _,AO,hr⟩
 obtain ⟨p,hp,hk,Ul⟩:=hr.at h2;obtain rfl:=znw (hk.symm.trans h3);have yZ:j < es.size:=by simpa using (zi h2).1
 have AP:(es.eraseIdxIfInBounds j).toList=es.toList.eraseIdx j:=by
  unfold Array.eraseIdxIfInBounds;rw [dif_pos yZ];simp
 refine ⟨setBlock w b (.map (es.eraseIdxIfInBounds j) clock), ?_, ?_,zby _ _ _,by simp [setBlock]⟩
 ·show (Builtin.delete_ #[151,73] ty #[.map (some b),uV p.1]).run prog w=_
  simp [Builtin.delete_,run_underlying Tryz.underlying151,MapKept.run_getObj_map h0,zmL.check w _ Cl,h1,MapKept.run_setObj_map _ h0,Result.andThen,setBlock]
 rw [zmb (zbx AO hr) hp];refine ⟨_,_,heap_setBlock_same h0 _,MapKept.stamped_erase AO j,by rw [AP,zef,hr.eq,<- zef],fun q hq=> hr.ok q ((List.eraseIdx_sublist _ _).subset hq)⟩
theorem zcl {ops:Array Oper} {rest:List Oper} {o:Oper} {a:Act} {Q:Exit->Act->World->Prop} (Ib:o.guard=none) (m x:Operand) (t k:TypeId)
 (ho:o.op= .call {callee:= .builtin .delete,args:=#[m,x],argTypes:=#[t,k]})  (Be:(Builtin.delete_ #[t,k] o.type #[a.eval m,a.eval x]).run P w= .ok (.tuple #[]) w') (h:wpList P ops Q rest (a.put o.dst (.tuple #[])) w'):wpList P ops Q (o::rest) a w:=by
 refine wpList_plain Ib fun K' QE=> ?_;unfold Oper.wp;simp [execOp,ho,resolve,invoke,builtin,Be,Result.andThen];exact QE _ _ h
theorem zab {ops:Array Oper} {rest:List Oper} {o:Oper} {a:Act} {Q:Exit->Act->World->Prop} (Ib:o.guard=none) (m x v:Operand) (t:TypeId)
 (ho:o.op= .mapUpdate t m x v)  (Be:(Instr.mapUpdate t (a.eval m) (a.eval x) (a.eval v)).run P w= .ok () w') (h:wpList P ops Q rest (a.put o.dst undef) w'):wpList P ops Q (o::rest) a w:=by
 refine wpList_plain Ib fun K hK=> ?_;unfold Oper.wp;simp [execOp,ho,Be,Result.andThen];exact hK _ _ h
theorem zjS (w:World):(binOp .eql 151 (.map none) (.map none)).run prog w= .ok (.bool true) w:=ue
theorem zhM (m:Nat) (w:World):(binOp .eql 151 (.map (some m)) (.map none)).run prog w= .ok (.bool false) w:=ue
end
section
def za9 (v b s:Nat):Nat:=v * 79228162514264337593543950336+b * 18446744073709551616+s
theorem zeV {v:Nat} (hb:b < 4294967296) (hs:s < 18446744073709551616):zj (za9 v b s)=v:=by unfold zj za9;omega
theorem zdl {v:Nat} (hb:b < 4294967296) (hs:s < 18446744073709551616):zo (za9 v b s)=b:=by unfold zo za9;omega
theorem zdm {v:Nat} (hs:s < 18446744073709551616):zp (za9 v b s)=s:=by unfold zp za9;omega
theorem zcc (k:Nat):za9 (zj k) (zo k) (zp k)=k:=by unfold za9 zj zo zp;omega
theorem zj2 {v:Nat} (hb:b < 4294967296) (hs:s < 18446744073709551616):za2 (za9 v b s)= .agg #[τ v,ν b,υ s]:=by
 unfold za2;rw [zeV hb hs,zdl hb hs,zdm hs]
theorem zec (k:Nat):zp k < 18446744073709551616:=by unfold zp;omega
theorem zmG (k:Nat):zo k < 4294967296:=by unfold zo;omega
def atL (l:List En) (v b s:Nat):Nat:=
 match zb2 l (za9 v b s) with
 | some e=> if zj e.1=v/\zo e.1=b then e.2 else 0
 | none=> 0
def zlS (l:List En) (b:Nat):Nat:=(l.filter fun x=> decide (x.2=b)).length
def Fit (l:List En):Prop:=∀x ∈ l,x.1<=5192296858534827628530496329220095/\x.2 < 4294967296
structure zcR (n:Nat) (l:List En) (F:List Nat) (L:List Uc):Prop where
 cnt:∀b,0 < b->zan L b=zlS l b
 zero:zan L 0=0
 all:∀x,(0 < x/\x<=n)↔(x ∈ F\/0 < zan L x)
 dis:∀x ∈ F,zan L x=0
theorem zl6 (l:List En) (b:Nat):zlS l b<=l.length:=List.length_filter_le _ _
theorem zgF {e:En} (h:e ∈ l):0 < zlS l e.2:=List.length_pos_iff.2 fun h0=> by
 have:e ∈ l.filter fun x=> decide (x.2=e.2):=List.mem_filter.2 ⟨h,uh⟩;rw [h0] at this
 cases this
theorem zbG (x:En) (l:List En) (b:Nat):zlS (x::l) b=(if x.2=b then 1 else 0)+zlS l b:=by
 unfold zlS
 by_cases h:x.2=b
 ·simp [h];omega
 simp [h]
theorem zgG {e:En} (hn:e.1 ∉ l.map (·.1)) (b:Nat):zlS (zaR l e) b=zlS l b+if e.2=b then 1 else 0:=by
 induction l with
 | nil=> rw [zaR,zbG];simp [zlS]
 | cons x l ih=>
   simp only [List.map_cons,List.mem_cons,not_or] at hn;unfold zaR
   split
   ·rw [zbG,zbG,ih hn.2];omega
   rw [if_neg (fun h=> hn.1 h.symm),zbG];omega
theorem zgE (hr:zac l) {e:En} (he:e ∈ l) (b:Nat):zlS (zaJ l e.1) b+(if e.2=b then 1 else 0)=zlS l b:=by
 induction l with
 | nil=> cases he
 | cons x l ih=>
   have hx:=(List.pairwise_cons.1 hr).1;unfold zaJ;rcases List.mem_cons.1 he with rfl | he
   ·rw [if_neg ud,if_pos rfl,zbG];omega
   have:=hx e he;rw [if_pos this,zbG,zbG,<- ih (List.pairwise_cons.1 hr).2 he];omega
theorem zoo {e:En} {x:En} (hx:x ∈ l) (h:x.1≠e.1):x ∈ zaR l e:=by
 induction l with
 | nil=> cases hx
 | cons y l ih=>
   unfold zaR;rcases List.mem_cons.1 hx with rfl | hx
   ·split
    ·exact List.mem_cons_self
    first
     | (rw [if_neg h];exact List.mem_cons_of_mem _ List.mem_cons_self)
     | exact List.mem_cons_of_mem _ List.mem_cons_self
   split
   ·exact List.mem_cons_of_mem _ (ih hx)
   split
   ·exact List.mem_cons_of_mem _ hx
   exact List.mem_cons_of_mem _ (List.mem_cons_of_mem _ hx)
theorem zcR.hole {L:List Uc} (h:zcR n l F L)  (hn:k ∉ l.map (·.1)):zcR n (zaR l (k,0)) F L:=
 ⟨fun b hb=> by rw [h.cnt b hb,zgG hn,if_neg (by show ¬0=b;omega)];rfl,h.zero,h.all,h.dis⟩
theorem zcR.share {L:List Uc} (h:zcR n l F L) {a:Nat} (hn:k ∉ l.map (·.1)) (ha:0 < a) (hc:0 < zan L a) (Ad:∀x,zan (zbV L a (zan L a+1)) x=if x=a then zan L a+1 else zan L x):zcR n (zaR l (k,a)) F (zbV L a (zan L a+1)):=by
 refine ⟨fun b hb=> ?_, ?_,fun x=> ?_,fun x hx=> ?_⟩
 ·rw [Ad,zgG hn]
  by_cases e:b=a
  ·rw [if_pos e,if_pos e.symm,<- h.cnt b hb,e]
  rw [if_neg e,if_neg (fun h=> e h.symm),<- h.cnt b hb];rfl
 ·rw [Ad,if_neg ud];exact h.zero
 ·rw [Ad,h.all]
  by_cases e:x=a
  ·rw [if_pos e,e];exact ⟨fun _=> .inr ud,fun _=> .inr hc⟩
  rw [if_neg e]
 rw [Ad,if_neg (fun e=> by have:=h.dis x hx;rw [e] at this;omega)]
 exact h.dis x hx
theorem zcR.take {L:List Uc} (h:zcR n l F L) (hF:F.Nodup) {a:Nat} (hn:k ∉ l.map (·.1)) (ha:a ∈ F) (Ad:∀x,zan (zbV L a (zan L a+1)) x=if x=a then zan L a+1 else zan L x):zcR n (zaR l (k,a)) (F.erase a) (zbV L a (zan L a+1)):=by
 have Mf:=h.dis a ha;have BP:=((h.all a).2 (.inl ha)).1;refine ⟨fun b hb=> ?_, ?_,fun x=> ?_,fun x hx=> ?_⟩
 ·rw [Ad,zgG hn]
  by_cases e:b=a
  ·rw [if_pos e,if_pos e.symm,<- h.cnt b hb,e]
  rw [if_neg e,if_neg (fun h=> e h.symm),<- h.cnt b hb];rfl
 ·rw [Ad,if_neg ud];exact h.zero
 ·rw [Ad,h.all,hF.mem_erase_iff]
  by_cases e:x=a
  ·rw [if_pos e,e];exact ⟨fun _=> .inr ud,fun _=> .inl ha⟩
  rw [if_neg e];simp [e]
 have Q7:=hF.mem_erase_iff.1 hx;rw [Ad,if_neg Q7.1];exact h.dis x Q7.2
theorem zcR.cutHole {L:List Uc} (h:zcR n l F L) (hr:zac l) {e:En} (he:e ∈ l) (h0:e.2=0):zcR n (zaJ l e.1) F L:=
 ⟨fun b hb=> by rw [h.cnt b hb,<- zgE hr he b,if_neg ud];rfl,h.zero,h.all,h.dis⟩
theorem zcR.cutMore {L:List Uc} (h:zcR n l F L) (hr:zac l) {e:En} (he:e ∈ l)  (hc:zan L e.2=c+2) (Ad:∀x,zan (zbV L e.2 (c+1)) x=if x=e.2 then c+1 else zan L x):zcR n (zaJ l e.1) F (zbV L e.2 (c+1)):=by
 have BP:0 < e.2:=Nat.pos_of_ne_zero fun e0=> by rw [e0,h.zero] at hc;omega
 refine ⟨fun b hb=> ?_, ?_,fun x=> ?_,fun x hx=> ?_⟩
 ·have hd:=zgE hr he b;rw [Ad]
  by_cases eb:b=e.2
  ·rw [if_pos eb.symm,<- h.cnt b hb] at hd;rw [if_pos eb];rw [eb] at hd ⊢
   omega
  rw [if_neg (fun h=> eb h.symm)] at hd;rw [if_neg eb,h.cnt b hb,<- hd];rfl
 ·rw [Ad,if_neg ud];exact h.zero
 ·rw [Ad,h.all]
  by_cases e:x=e.2
  ·rw [if_pos e,e];exact ⟨fun _=> .inr ud,fun _=> .inr ud⟩
  rw [if_neg e]
 rw [Ad,if_neg (fun e=> by have:=h.dis x hx;rw [e] at this;omega)]
 exact h.dis x hx
theorem zcR.cutLast {L:List Uc} (h:zcR n l F L) (hr:zac l) {e:En} (he:e ∈ l) (hc:zan L e.2=1) (Ad:∀x,zan (zet L e.2) x=if x=e.2 then 0 else zan L x):zcR n (zaJ l e.1) (e.2::F) (zet L e.2):=by
 have BP:0 < e.2:=Nat.pos_of_ne_zero fun e0=> by rw [e0,h.zero] at hc;omega
 refine ⟨fun b hb=> ?_, ?_,fun x=> ?_,fun x hx=> ?_⟩
 ·have hd:=zgE hr he b;rw [Ad]
  by_cases eb:b=e.2
  ·rw [if_pos eb.symm,<- h.cnt b hb] at hd;rw [if_pos eb];rw [eb] at hd ⊢
   omega
  rw [if_neg (fun h=> eb h.symm)] at hd;rw [if_neg eb,h.cnt b hb,<- hd];rfl
 ·rw [Ad,if_neg ud];exact h.zero
 ·rw [Ad,h.all,List.mem_cons]
  by_cases e:x=e.2
  ·rw [if_pos e,e];exact ⟨fun _=> .inl (.inl rfl),fun _=> .inr ud⟩
  rw [if_neg e];simp [e]
 rw [Ad]
 by_cases e:x=e.2
 ·rw [if_pos e]
 rw [if_neg e];rcases List.mem_cons.1 hx with h' | hx
 ·exact absurd h' e
 exact h.dis x hx
theorem zcR.empty (n:Nat) (F:List Nat) (hF:∀x,x ∈ F↔0 < x/\x<=n):zcR n [] F []:=
 ⟨fun b _=> rfl,rfl,fun x=> by rw [hF];simp [zan],fun x _=> rfl⟩
def zao (l:List En):List En->List En
 | []=> l
 | e::es=> zao (zaJ l e.1) es
theorem zog (hr:zac l) {e x:En} (he:e ∈ l):x ∈ zaJ l e.1↔x ∈ l/\x≠e:=by
 induction l with
 | nil=> cases he
 | cons y l ih=>
   have hy:=(List.pairwise_cons.1 hr).1;unfold zaJ;rcases List.mem_cons.1 he with rfl | he
   ·rw [if_neg ud,if_pos rfl]
    constructor
    ·intro hx;exact ⟨List.mem_cons_of_mem _ hx,fun e2=> by have:=hy x hx;rw [e2] at this;omega⟩
    rintro ⟨hx,Aj⟩;rcases List.mem_cons.1 hx with rfl | hx
    ·exact absurd rfl Aj
    exact hx
   have hlt:=hy e he;rw [if_pos hlt,List.mem_cons,List.mem_cons,ih (List.pairwise_cons.1 hr).2 he]
   constructor
   ·rintro (rfl | ⟨h1,h2⟩)
    ·exact ⟨.inl rfl,fun e2=> by rw [e2] at hlt;omega⟩
    exact ⟨.inr h1,h2⟩
   rintro ⟨rfl | h1,h2⟩
   ·exact .inl rfl
   exact .inr ⟨h1,h2⟩
theorem ziI (hr:zac l) {e:En} (he:e ∈ l):zaJ l e.1=l.filter fun x=> decide (x≠e):=by
 induction l with
 | nil=> cases he
 | cons y l ih=>
   have hy:=(List.pairwise_cons.1 hr).1;unfold zaJ;rcases List.mem_cons.1 he with rfl | he
   ·rw [if_neg ud,if_pos rfl,List.filter_cons_of_neg uh];refine (List.filter_eq_self.2 fun x hx=> ?_).symm;have:=hy x hx;simp only [ne_eq,decide_not,Bool.not_eq_true',decide_eq_false_iff_not];intro e2;rw [e2] at this
    omega
   have hlt:=hy e he;rw [if_pos hlt,List.filter_cons_of_pos (by simp only [ne_eq,decide_not,Bool.not_eq_true',decide_eq_false_iff_not];intro e2;rw [e2] at hlt;omega),ih (List.pairwise_cons.1 hr).2 he]
theorem zct:∀{es l:List En},zac l->(∀e ∈ es,e ∈ l)->es.Nodup->zao l es=l.filter fun x=> decide (x ∉ es)
 | [],l,_,_,_=> by
   show l=_
   exact (List.filter_eq_self.2 fun x _=> by simp).symm
 | e::es,l,hr,hs,hn=> by
   have IE:=List.nodup_cons.1 hn;have he:=hs e List.mem_cons_self
   show zao (zaJ l e.1) es=_
   rw [zct (zhH hr) (fun x hx=> (zog hr he).2 ⟨hs x (List.mem_cons_of_mem _ hx),fun e2=> IE.1 (by rw [<- e2];exact hx)⟩) IE.2,ziI hr he,List.filter_filter]
   refine List.filter_congr fun x _=> ?_
   by_cases h1:x=e <;> by_cases h2:x ∈ es <;> simp [h1,h2]
theorem zek (h:zac l):l.Nodup:=List.Pairwise.imp (fun {a b} Dh e=> by rw [e] at Dh;omega) h
theorem zff:∀(es:List En) (l:List En) (e:En),zao l (es++ [e])=zaJ (zao l es) e.1
 | [],_,_=> rfl
 | x::es,l,e=> zff es (zaJ l x.1) e
end
section
open Go.RowKit
section
variable {α:Type} (enc:α→List Value) (k:Nat)
structure zbS (e:TypeId) (w:World) (g cap:Nat) (l:List α):Prop where
 ex:∃cur,w.heap[g]? =some (.cells cur e (0,0))/\cur.size=cap * k/\cur.toList.take (l.length * k)=zB enc l
 le:l.length<=cap
 cm:cap<=maxLen
end
structure zcN (g:Nat) (w w':World):Prop where
 os:w'.os=w.os
 tape:w'.tape=w.tape
 output:w'.output=w.output
 size:↑w'=w.heap.size
 block:∀j,j≠g->w'.heap[j]? =w.heap[j]?
theorem zcN.refl (g:Nat) (w:World):zcN g w w:=⟨rfl,rfl,rfl,rfl,fun _ _=> rfl⟩
theorem zcN.trans (h:zcN g w w1) (h':zcN g w1 w2):zcN g w w2:=⟨h'.os.trans h.os,h'.tape.trans h.tape,h'.output.trans h.output,h'.size.trans h.size,fun j hj=> (h'.block j hj).trans (h.block j hj)⟩
theorem zcN.grown (h:zcN g w w'):w.grownBy w' (some g):=⟨h.os,h.tape,h.output,by rw [h.size];exact zl,fun j _ Aj=> h.block j (fun e=> Aj uJ)⟩
theorem zcN.setRow (g:Nat) (w:World) (c:Array Value):zcN g w (w.setRow g c):=⟨rfl,rfl,rfl,uh,fun j hj=> setRow_other w g j c hj⟩
section
variable {α:Type} {enc:α→List Value} {k:Nat}
theorem zfb (hk:∀x,(enc x).length=k) (l:List α) (i:Nat):(zB enc l).take (i * k)=zB enc (l.take i):=by
 induction l generalizing i with
 | nil=> simp [zB]
 | cons x l ih=>
   cases i with
   | zero=> simp [zB]
   | succ i=>
     rw [List.take_succ_cons,zay,zay,show (i+1) * k=(enc x).length+i * k by rw [hk,Nat.add_mul];omega,List.take_length_add_append,ih]
theorem ziD (hk:∀x,(enc x).length=k) (l:List α) (i:Nat):(zB enc l).drop (i * k)=zB enc (l.drop i):=by
 induction l generalizing i with
 | nil=> simp [zB]
 | cons x l ih=>
   cases i with
   | zero=> simp [zB]
   | succ i=>
     rw [List.drop_succ_cons,zay,show (i+1) * k=(enc x).length+i * k by rw [hk,Nat.add_mul];omega,List.drop_length_add_append,ih]
theorem zbS.own (hk:∀x,(enc x).length=k)    {l:List α} (h:zbS enc k e w g cap l) (hB:B<=g):zK enc k e w B (σ (some ↑g) l.length cap) l:=by
 obtain ⟨cur,h1,h2,h3⟩:=h.ex;exact ⟨zU enc k hk l, .inr ⟨g,cap,cur,rfl,hB,h1,h.le,h.cm,h2,h3⟩⟩
theorem zK.cases {l:List α} (h:zK enc k e w B v l):(v=σ none 0 0/\l= [])\/∃g cap,v=σ (some ⟨g,0,()⟩) l.length cap/\B<=g/\g < ↑w/\zbS enc k e w g cap l:=by
 rcases h.2 with ⟨rfl,h0⟩ | ⟨g,cap,cur,rfl,Bc,hg,Ge,Ce,Fo,CY⟩
 ·exact .inl ⟨rfl,List.eq_nil_of_length_eq_zero h0⟩
 exact .inr ⟨g,cap,rfl,Bc,(zg hg).1,⟨cur,hg,Fo,CY⟩,Ge,Ce⟩
theorem zbS.heap {l:List α} (h:zbS enc k e w g cap l) (hh:w'.heap[g]? =w.heap[g]?):zbS enc k e w' g cap l:=by
 obtain ⟨cur,h1,h2,h3⟩:=h.ex;exact ⟨⟨cur,hh.trans h1,h2,h3⟩,h.le,h.cm⟩
theorem zbS.lt {l:List α} (h:zbS enc k e w g cap l):g < ↑w:=by
 obtain ⟨cur,h1,-⟩:=h.ex;exact (zg h1).1
theorem zbS.take (hk:∀x,(enc x).length=k)    {l:List α} (h:zbS enc k e w g cap l) (i:Nat):zbS enc k e w g cap (l.take i):=by
 obtain ⟨cur,h1,h2,h3⟩:=h.ex;refine ⟨⟨cur,h1,h2, ?_⟩,by rw [List.length_take];have:=h.le;omega,h.cm⟩
 rw [<- zfb hk,<- h3,List.take_take,List.length_take];rcases Nat.le_total i l.length with h' | h'
 ·rw [Nat.min_eq_left h',Nat.min_eq_left (Nat.mul_le_mul_right _ h')]
 rw [Nat.min_eq_right h',Nat.min_eq_right (Nat.mul_le_mul_right _ h')]
theorem zbS.row (hk:∀x,(enc x).length=k)    {l:List α} (h:zbS enc k e w g cap l):zM enc k w (some ↑g) l.length l:=by
 obtain ⟨a,cap',hv,hr,-,-⟩:=(h.own hk (Nat.le_refl g)).row hk;simp only [Value.slice.injEq] at hv;obtain ⟨rfl,-,-⟩:=hv;exact hr
theorem zM.cells (hk:∀x,(enc x).length=k) (BX:0 < k)  {o:Nat} {l2:List α} (hs:zM enc k w (some (b o ())) m l2):∀j u,(zB enc l2)[j]? =some u->w (((b o ()):Addr).add j)=some u:=fun j u hu=> by
 have FT:j < l2.length * k:=by rw [<- zU enc k hk];exact (zi hu).1
 have hq:j / k < l2.length:=Nat.div_lt_of_lt_mul (by rw [Nat.mul_comm];exact FT)
 have hm:j % k < k:=Nat.mod_lt _ BX;have hd:j=j / k * k+j % k:=by rw [Nat.mul_comm];exact (Nat.div_add_mod j k).symm
 obtain ⟨b',o',he,h1⟩:=hs.2 (j / k) l2[j / k] (ze hq);simp only [Option.some.injEq,Addr.mk.injEq,and_true] at he;obtain ⟨rfl,rfl⟩:=he;have h2:=zfa enc k hk l2 (j / k) (j % k) _ (ze hq) hm;rw [<- hd,hu] at h2;have h3:=h1 (j % k) u h2.symm;rw [zdt];rw [Nat.add_assoc,<- hd] at h3;exact h3
theorem zbS.over (hk:∀x,(enc x).length=k)    {l:List α} (h:zbS enc k e w g cap l) {cur:Array Value} (hg:w.heap[g]? =some (.cells cur e (0,0))) (i:Nat) (hi:i<=l.length) (l2:List α) (hc:i+l2.length<=cap):
 zbS enc k e (w.setRow g (cur.toList.take (i * k)++zB enc l2++cur.toList.drop (i * k+(zB enc l2).length)).toArray) g cap (l.take i++l2)/\
 (i+l2.length<=l.length->zbS enc k e (w.setRow g (cur.toList.take (i * k)++zB enc l2++cur.toList.drop (i * k+(zB enc l2).length)).toArray) g cap (l.take i++l2++l.drop (i+l2.length))):=by
 obtain ⟨cur',h1,h2,h3⟩:=h.ex;rw [hg] at h1;simp only [Option.some.injEq,Obj.cells.injEq,and_true] at h1;obtain rfl:cur=cur':=h1;have CC:=zU enc k hk l2;have BO:=h.le;have e1:cur.toList.take (i * k)=zB enc (l.take i):=by
  rw [<- zfb hk,<- h3,List.take_take,Nat.min_eq_left (Nat.mul_le_mul_right _ hi)]
 have Ci:(l.take i).length=i:=by rw [List.length_take];omega
 have QP:i * k+l2.length * k<=cap * k:=by rw [<- Nat.add_mul];exact Nat.mul_le_mul_right _ hc
 have AR:(cur.toList.take (i * k)++zB enc l2++cur.toList.drop (i * k+(zB enc l2).length)).toArray.size=cap * k:=by
  simp only [List.size_toArray,List.length_append,List.length_take,List.length_drop,Array.length_toList,CC,h2]
  omega
 refine ⟨⟨⟨_,setRow_heap w g cur _ e _ hg,AR, ?_⟩,by rw [List.length_append,Ci];exact hc,h.cm⟩,fun hl=> ⟨⟨_,setRow_heap w g cur _ e _ hg,AR, ?_⟩, ?_,h.cm⟩⟩
 ·rw [zaj,e1,show (l.take i++l2).length * k=(zB enc (l.take i)++zB enc l2).length by rw [List.length_append,List.length_append,zU enc k hk,CC,Nat.add_mul]]
  exact List.take_left
 ·have e2:(cur.toList.drop (i * k+(zB enc l2).length)).take (l.length * k - (i * k+(zB enc l2).length))=zB enc (l.drop (i+l2.length)):=by
   rw [<- ziD hk,<- h3,List.drop_take,CC,Nat.add_mul]
  rw [zaj,zaj,e1,<- e2,show (l.take i++l2++l.drop (i+l2.length)).length * k=(zB enc (l.take i)++zB enc l2).length+(l.length * k - (i * k+(zB enc l2).length)) by
   rw [List.length_append,List.length_append,List.length_append,List.length_drop,zU enc k hk,CC,Ci,<- Nat.add_mul,<- Nat.sub_mul,<- Nat.add_mul]]
  exact List.take_length_add_append _
 rw [List.length_append,List.length_append,List.length_drop,Ci]
 omega
theorem zaX (hk:∀x,(enc x).length=k) (BA:∀x,∀u ∈ enc x,u.oneCell'=true) {P:Program} {dT sT e:TypeId} {i0:TypeInfo} (hu:P.underlying dT=some (.slice e)) (AD:P.info? e=some i0) (Ai:i0.size=k)
 {w:World} {g cap:Nat} {l:List α} (h:zbS enc k e w g cap l) (i:Nat) (hi:i<=l.length) (l2:List α) (a:Addr) (Dq:∀j u,(zB enc l2)[j]? =some u->w.cell? (a.add j)=some u) (hc:i+l2.length<=cap) (sLen dLen:Nat) (hn:l2.length=Nat.min sLen dLen):
 ∃ w',(∀ty dCap sCap,(Builtin.copy_ #[dT,sT] ty #[.slice (some ⟨g,i * k,none⟩) dLen dCap, .slice (some a) sLen sCap]).run P w= .ok (goInt l2.length) w')/\zbS enc k e w' g cap (l.take i++l2)/\
   (i+l2.length<=l.length->zbS enc k e w' g cap (l.take i++l2++l.drop (i+l2.length)))/\zcN g w w':=by
 obtain ⟨cur,h1,h2,h3⟩:=h.ex;have CC:=zU enc k hk l2;have QP:i * k+l2.length * k<=cap * k:=by rw [<- Nat.add_mul];exact Nat.mul_le_mul_right _ hc
 have II:=h.over hk h1 i hi l2 hc;refine ⟨_,fun ty dCap sCap=> ?_,II.1,II.2,zcN.setRow _ _ _⟩;have hf:=run_firstCells_some (P:=P) w i0.size l2.length a sLen sCap (zB enc l2) (by rw [CC,Ai]) Dq
 have AO:=run_storeCells_at P g (i * k) e (zB enc l2) 0 cur w h1 (by rw [CC,h2];omega) (fun u hu=> by
  obtain ⟨x,-,hx⟩:=List.mem_flatMap.1 hu;exact BA x u hx)
 simp only [Nat.add_zero] at AO;simp [Builtin.copy_,run_underlying hu,Builtin.lenOf,sizeOf,typeInfo,AD,<- hn,hf,AO]
theorem zbn (hk:∀x,(enc x).length=k) (BA:∀x,∀u ∈ enc x,u.oneCell'=true) {P:Program} {t e:TypeId} {i0:TypeInfo} (hu:P.underlying t=some (.slice e)) (AD:P.info? e=some i0) (Ai:i0.size=k)
 {w:World} {g cap:Nat} {l:List α} (h:zbS enc k e w g cap l) (i:Nat) (hi:i<=l.length) (l2:List α) (a:Addr) (Dq:∀j u,(zB enc l2)[j]? =some u->w.cell? (a.add j)=some u) (hc:i+l2.length<=cap):
 ∃w',(∀ty c,(Builtin.append_ #[t,t] ty #[.slice (some ⟨g,0,none⟩) i cap, .slice (some a) l2.length c]).run P w= .ok (.slice (some ⟨g,0,none⟩) (i+l2.length) cap) w')/\zbS enc k e w' g cap (l.take i++l2)/\zcN g w w':=by
 obtain ⟨cur,h1,h2,h3⟩:=h.ex;have CC:=zU enc k hk l2;have QP:i * k+l2.length * k<=cap * k:=by rw [<- Nat.add_mul];exact Nat.mul_le_mul_right _ hc
 refine ⟨_,fun ty c=> ?_,(h.over hk h1 i hi l2 hc).1,zcN.setRow _ _ _⟩;have:=run_append_room (P:=P) w t ty e i0 hu AD g i cap cur h1 a l2.length c (zB enc l2) (by rw [CC,Ai]) Dq (fun u hu=> by
  obtain ⟨x,-,hx⟩:=List.mem_flatMap.1 hu;exact BA x u hx) hc (by rw [CC,Ai,h2];exact QP)
 rw [Ai] at this;exact this
theorem zbe (BX:0 < k) {P:Program} {t e:TypeId} {z:Value} (hu:P.underlying t=some (.slice e)) (hv:∀w,(zeroValue e).run P w= .ok z w) (Gk:z.cells.size=k) (Ai:∀u ∈ z.cells,u.oneCell'=true)
 {w:World} {g cap:Nat} {l:List α} (h:zbS enc k e w g cap l) (i n:Nat) (hi:l.length<=i) (hc:i+n<=cap) (o:Nat) (ho:n=0\/o=i * k):
 ∃w',(∀ty c,(Builtin.clear_ #[t] ty #[.slice (some ⟨g,o,none⟩) n c]).run P w= .ok (.tuple #[]) w')/\zbS enc k e w' g cap l/\zcN g w w':=by
 cases n with
 | zero=> exact ⟨w,fun ty c=> by simp [Builtin.clear_,run_underlying hu],h,zcN.refl _ _⟩
 | succ n=>
   obtain rfl:o=i * k:=by omega
   obtain ⟨cur,h1,h2,h3⟩:=h.ex;have F5:(Builtin.zeroCells z.cells (n+1)).toList.length=(n+1) * k:=by rw [Array.length_toList,size_zeroCells,Gk]
   have QP:i * k+(n+1) * k<=cap * k:=by rw [<- Nat.add_mul];exact Nat.mul_le_mul_right _ hc
   have KH:l.length * k<=i * k:=Nat.mul_le_mul_right _ hi;have AO:=run_storeCells_at P g (i * k) e (Builtin.zeroCells z.cells (n+1)).toList 0 cur w h1 (by rw [F5,h2];omega) (fun u hu=> by
    rw [Array.mem_toList_iff] at hu;unfold Builtin.zeroCells at hu;obtain ⟨j,-,rfl⟩:=Array.mem_map.1 hu;have hlt:j % z.cells.size < z.cells.size:=Nat.mod_lt _ (by omega)
    rw [getElem!_pos z.cells _ hlt];exact Ai _ (Array.getElem_mem _))
   simp only [Nat.add_zero] at AO;generalize Ob:(Builtin.zeroCells z.cells (n+1)).toList=zz at *;refine ⟨w.setRow g (cur.toList.take (i * k)++zz++cur.toList.drop (i * k+zz.length)).toArray,fun ty c=> by simp [Builtin.clear_,run_underlying hu,hv,Ob,AO],⟨⟨_,setRow_heap w g cur _ e _ h1, ?_, ?_⟩,h.le,h.cm⟩,zcN.setRow _ _ _⟩
   ·rw [List.size_toArray,List.length_append,List.length_append,List.length_take,List.length_drop,Array.length_toList,F5,h2]
    omega
   rw [<- h3,List.append_assoc,List.take_append_of_le_length (by rw [List.length_take,show cur.toList.length=cap * k from h2];omega),List.take_take,Nat.min_eq_left KH]
theorem zeD (hk:∀x,(enc x).length=k) (BX:0 < k) {P:Program} {t tn e:TypeId} {i0:TypeInfo} {z:Value} {bytes:Nat} {kq kn:IntKind} (hu:P.underlying t=some (.slice e)) (Qb:P.underlying tn=some (.int kn)) (AD:P.info? e=some i0) (hz:i0.zero=some z) (Ai:i0.size=k) (Ax:i0.bytes=bytes) (Gk:z.cells.size=k)
 {w:World} {g cap:Nat} {l:List α} (h:zbS enc k e w g cap l) (i:Nat) (hi:i<=l.length) (m:Nat) (hm:0 < m) (hc:cap < i+m) (hs:i+m<=1000000) (FP:bytes<=1000):
 ∃cap' w',(∀ty,(Builtin.append_ #[t,tn] ty #[.slice (some ⟨g,0,none⟩) i cap, .int kq m]).run P w= .ok (.slice (some ⟨w.heap.size,0,none⟩) (i+m) cap') w')/\zbS enc k e w' w.heap.size cap' (l.take i)/\i+m<=cap'/\Below w.heap.size w w'/\w'.heap.size=w.heap.size+1:=by
 have Fx:=h.take hk i;have Ci:(l.take i).length=i:=by rw [List.length_take];omega
 have Ah:=Fx.row hk;have hcells:=zM.cells hk BX Ah;have JJ:(i+m) * bytes<=1000000 * 1000:=Nat.mul_le_mul hs FP;have au:m * bytes<=1000000 * 1000:=Nat.mul_le_mul (by omega) FP
 have IG:(Builtin.firstCells i0.size i (.slice (some ⟨g,0,none⟩) i cap)).run P w.drew= .ok (zB enc (l.take i)).toArray w.drew:=by
  rw [Ai];exact run_firstCells_some (P:=P) w.drew k i ⟨g,0,none⟩ i cap _ (by rw [zU enc k hk,Ci]) hcells
 have JH:=grownCap_ge w (i+m) cap e;have Pi:grownCap w (i+m) cap e<=maxLen:=grownCap_le_maxLen w (i+m) cap e (by unfold maxLen;omega)
 refine ⟨_,_,fun ty=> Lib.run_append_grow_zeros (P:=P) w t tn ty e i0 z kq kn hu Qb AD hz (some ⟨g,0,none⟩) i cap (zB enc (l.take i)) IG m hm (by omega) hc (by omega) (by rw [Ax];omega) (by rw [Ax];exact growslice_fits (by omega) (by omega)),⟨⟨_,heap_alloc_new w.drew _, ?_, ?_⟩,by omega,Pi⟩,JH,⟨rfl,rfl,rfl,by simp,fun j hj=> Below.heap_alloc w.drew _ _ hj⟩,by simp⟩
 ·simp only [Array.size_append,size_zeroCells,List.size_toArray,zU enc k hk,Ci,Gk,<- Nat.add_mul]
  congr 1
  omega
 simp only [Array.toList_append,List.append_assoc];rw [show (l.take i).length * k=(zB enc (l.take i)).length by rw [zU enc k hk]]
 exact List.take_left
end
theorem zA {P : Program} {w : World} {ops : Array Oper} {o : Oper} {a : Act} {K : Act -> World -> Prop} {Q : Exit -> Act -> World -> Prop} {E : Prop} (hw : Region.wanted o (yielded ops a.tmps) = true) (f : FuncId) {fn : Func} {c : Code} (hf : P.funcs[f]? = some fn) (TB : (fn.name == "runtime.NumGoroutine") = false) (hb : fn.body = some c) (xs : Array Operand) (ts : Array TypeId)
 (ho:o.op= .call {callee:= .value (.func f),args:=xs,argTypes:=ts}) (args:Array Value) (Sb:xs.map a.eval=args) {R:Ending->World->Prop} (hc:Calls P f args w R) (h:∀e w',R e w'->∃v,e=ρ v/\K (a.put o.dst v) w'):if Region.wanted o (yielded ops a.tmps)=true then Oper.wp P o a w K Q else E:=by
 rw [if_pos hw];unfold Oper.wp;have Be:(execOp a.eval o).run P w= .ok (.enter f args) w:=by
  subst Sb;unfold execOp;simp [ho,resolve,invoke,Act.eval,Deferred.ofValue,callFunc,hf,hb]
  simpa using TB
 rw [Be,Oper.upon_enter];exact hc.mono fun e w' hR=> by obtain ⟨v,rfl,hk⟩:=h e w' hR;exact hk
end
end Go.Proofs.YtaoceecfjlkmdaaGreat
