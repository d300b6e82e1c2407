/- Lemmas of the walks, merged and pressed by press.py. Conditions: those of each theorem. -/
import Derived.Maps.Range
import Derived.Maps.Own
import Derived.Maps.OwnSet
import Derived.Test.YtfldlfladcfggaaGreatM2
import Derived.Test.YtfldlfladcfggaaGreatM1
import Derived.BigQuiet
import Derived.Deep.RegionLaw
set_option maxRecDepth 100000
set_option maxHeartbeats 64000000
set_option linter.all false
namespace Go.Proofs.YtfldlfladcfggaaGreat
section
open Go.RowKit Go.Maps Go.ChangeMaps
abbrev Uc:=Nat × Nat
def UIn (p:Uc):Prop:=p.1 < 4294967296∧p.2≤1000000000
def uV (x:Nat):Value:= .int .u32 (x:Int)
theorem znw {s u:Nat} (h:uV s=uV u):s=u:=by
 unfold uV at h
 injection h with _ h
 omega
theorem zmL:Keyed Tryz.prog 86:=int_keyed Tryz.underlying86
theorem wfU {x:Nat} (h:x < 4294967296):(Lit.int .u32 (x:Int)).wf=true:=by simp [Lit.wf,IntKind.min,IntKind.max,IntKind.signed,IntKind.bits];omega
theorem zfq {x:Nat} (h:x < 4294967296):keyOf Tryz.prog 86 (uV x)=some (.int .u32 (x:Int)):=keyOf_int_mk Tryz.underlying86 (wfU h)
def zan:List Uc→Nat→Nat
 | [],_=> 0
 | p::L,s=> if p.1=s then p.2 else zan L s
def zbV:List Uc→Nat→Nat→List Uc
 | [],s,v=> [(s,v)]
 | p::L,s,v=> if p.1=s then (s,v)::L else p::zbV L s v
def zet:List Uc→Nat→List Uc
 | [],_=> []
 | p::L,s=> if p.1=s then L else p::zet L s
theorem zfe:∀{L:List Uc} {s:Nat},(∀p ∈ L,p.1≠s)→zan L s=0
 | [],_,_=> rfl
 | p::L,s,h=> by
   unfold zan;rw [if_neg (h p (by simp)),zfe (fun q hq=> h q (by simp [hq]))]
theorem zif:∀{L:List Uc} {s:Nat} (v:Nat),(∀p ∈ L,p.1≠s)→zbV L s v=L++ [(s,v)]
 | [],_,_,_=> rfl
 | p::L,s,v,h=> by
   unfold zbV;rw [if_neg (h p (by simp)),zif v (fun q hq=> h q (by simp [hq]))]
   rfl
theorem zhI:∀{L:List Uc} {s:Nat},(∀p ∈ L,p.1≠s)→zet L s=L
 | [],_,_=> rfl
 | p::L,s,h=> by
   unfold zet;rw [if_neg (h p (by simp)),zhI (fun q hq=> h q (by simp [hq]))]
theorem zl8:∀{L:List Uc} {j:Nat} {p:Uc},(L.map (·.1)).Nodup→L[j]? =some p→zan L p.1=p.2
 | [],_,_,_,h=> by simp at h
 | q::L,0,p,_,h=> by
   simp only [List.getElem?_cons_zero,Option.some.injEq] at h;subst h;simp [zan]
 | q::L,j+1,p,hn,h=> by
   simp only [List.getElem?_cons_succ] at h;simp only [List.map_cons,List.nodup_cons] at hn;have Aj:q.1≠p.1:=fun e=> hn.1 (List.mem_map.2 ⟨p,zm h,e.symm⟩);unfold zan;rw [if_neg Aj,zl8 hn.2 h]
theorem zni:∀{L:List Uc} {j:Nat} {p:Uc} (v:Nat),(L.map (·.1)).Nodup→L[j]? =some p→zbV L p.1 v=L.set j (p.1,v)
 | [],_,_,_,_,h=> by simp at h
 | q::L,0,p,v,_,h=> by
   simp only [List.getElem?_cons_zero,Option.some.injEq] at h;subst h;simp [zbV]
 | q::L,j+1,p,v,hn,h=> by
   simp only [List.getElem?_cons_succ] at h;simp only [List.map_cons,List.nodup_cons] at hn;have Aj:q.1≠p.1:=fun e=> hn.1 (List.mem_map.2 ⟨p,zm h,e.symm⟩);unfold zbV;rw [if_neg Aj,zni v hn.2 h]
   rfl
theorem zmb:∀{L:List Uc} {j:Nat} {p:Uc},(L.map (·.1)).Nodup→L[j]? =some p→zet L p.1=L.eraseIdx j
 | [],_,_,_,h=> by simp at h
 | q::L,0,p,_,h=> by
   simp only [List.getElem?_cons_zero,Option.some.injEq] at h;subst h;simp [zet]
 | q::L,j+1,p,hn,h=> by
   simp only [List.getElem?_cons_succ] at h;simp only [List.map_cons,List.nodup_cons] at hn;have Aj:q.1≠p.1:=fun e=> hn.1 (List.mem_map.2 ⟨p,zm h,e.symm⟩);unfold zet;rw [if_neg Aj,zmb hn.2 h]
   rfl
def kvE (e:MapEntry):Value × Value:=(e.key,e.val)
def kvU (p:Uc):Value × Value:=(uV p.1, .int .i64 (p.2:Int))
structure zds (es:List MapEntry) (L:List Uc):Prop where
 eq:es.map kvE=L.map kvU
 ok:∀p ∈ L,UIn p
theorem zds.at {es:List MapEntry} {L:List Uc} (h:zds es L) {j:Nat} {e:MapEntry} (he:es[j]? =some e):∃p,L[j]? =some p∧e.key=uV p.1∧e.val= .int .i64 (p.2:Int):=by
 have h1:=congrArg (fun l=> l[j]?) h.eq;simp only [List.getElem?_map,he,Option.map_some] at h1
 cases hp:L[j]? with
 | none=> rw [hp] at h1;cases h1
 | some p=>
   rw [hp] at h1;simp only [Option.map_some,Option.some.injEq,kvE,kvU,Prod.mk.injEq] at h1;exact ⟨p,rfl,h1.1,h1.2⟩
theorem zds.mem {es:List MapEntry} {L:List Uc} (h:zds es L) {e:MapEntry} (he:e ∈ es):∃p ∈ L,e.key=uV p.1∧e.val= .int .i64 (p.2:Int):=by
 obtain ⟨j,hj⟩:=List.getElem?_of_mem he;obtain ⟨p,hp,h1,h2⟩:=h.at hj;exact ⟨p,zm hp,h1,h2⟩
theorem zds.mem' {es:List MapEntry} {L:List Uc} (h:zds es L) {p:Uc} (hp:p ∈ L):∃e ∈ es,e.key=uV p.1∧e.val= .int .i64 (p.2:Int):=by
 have:kvU p ∈ es.map kvE:=by rw [h.eq];exact List.mem_map.2 ⟨p,hp,rfl⟩
 obtain ⟨e,he,h1⟩:=List.mem_map.1 this;simp only [kvE,kvU,Prod.mk.injEq] at h1;exact ⟨e,he,h1.1,h1.2⟩
def zbT (w:World) (b:Nat) (L:List Uc):Prop:=∃es clock,w.heap[b]? =some (.map es clock)∧MapKept.Stamped es clock∧zds es.toList L
theorem zbx {es:Array MapEntry} {clock:Nat} {L:List Uc} (h:MapKept.Stamped es clock) (hr:zds es.toList L):(L.map (·.1)).Nodup:=by
 obtain ⟨-,-,h3⟩:=h;have e1:es.toList.map (·.key)=(L.map (·.1)).map uV:=by
  have:=congrArg (List.map Prod.fst) hr.eq
  simpa [List.map_map,Function.comp_def,kvE,kvU] using this
 rw [e1] at h3;exact List.Pairwise.of_map uV (fun a c h e=> h (congrArg uV e)) h3
theorem zbT.nodup {w:World} {b:Nat} {L:List Uc} (h:zbT w b L):(L.map (·.1)).Nodup:=by
 obtain ⟨es,clock,-,h1,h2⟩:=h;exact zbx h1 h2
theorem zbT.lt {w:World} {b:Nat} {L:List Uc} (h:zbT w b L):b < w.heap.size:=by
 obtain ⟨es,clock,h1,-⟩:=h;exact (zg h1).1
theorem zbT.heap {w w':World} {b:Nat} {L:List Uc} (h:zbT w b L) (hb:w'.heap[b]? =w.heap[b]?):zbT w' b L:=by
 obtain ⟨es,clock,h1,h2⟩:=h;exact ⟨es,clock,hb.trans h1,h2⟩
theorem zbT.made (w:World):zbT (w.alloc (.map #[] 0)) w.heap.size []:=⟨#[],0,heap_alloc_new w _,MapKept.stamped_empty 0,rfl,by simp⟩
theorem zdB {es:List MapEntry} {L:List Uc} (h:zds es L):∀e ∈ es,∃l,keyOf Tryz.prog 86 e.key=some l:=fun e he=> by
 obtain ⟨p,hp,h1,-⟩:=h.mem he;exact ⟨_,by rw [h1];exact zfq (h.ok p hp).1⟩
theorem zcE {es:List MapEntry} {L:List Uc} (h:zds es L) {s:Nat} (h2:∀x ∈ es,x.key≠uV s):∀p ∈ L,p.1≠s:=fun p hp e=> by
 obtain ⟨x,hx,h1,-⟩:=h.mem' hp;exact h2 x hx (by rw [h1,e])
theorem zbT.look {w:World} {b:Nat} {L:List Uc} (h:zbT w b L) {s:Nat} (hs:s < 4294967296):
 (Instr.lookup 112 (.map (some b)) (.int .u32 (s:Int)) false).run Tryz.prog w= .ok (.int .i64 (zan L s:Nat)) w:=by
 obtain ⟨es,clock,h0,AO,hr⟩:=h;have Cl:=zfq hs
 show (Instr.lookup 112 (.map (some b)) (uV s) false).run Tryz.prog w=_
 rcases zmL.find w Cl es.toList (zdB hr) with ⟨h1,h2⟩ | ⟨j,e0,h1,h2,h3⟩
 ·rw [zfe (zcE hr h2)];simp [Instr.lookup,run_underlying Tryz.underlying112,MapKept.run_getObj_map h0,zmL.check w _ Cl,h1,Tryz.zeroValue3 w,Result.andThen]
 ·obtain ⟨p,hp,hk,hv⟩:=hr.at h2;obtain rfl:=znw (hk.symm.trans h3);rw [zl8 (zbx AO hr) hp];simp [Instr.lookup,run_underlying Tryz.underlying112,MapKept.run_getObj_map h0,zmL.check w _ Cl,h1,Result.andThen,hv]
theorem zmP {s:Nat} (hs:s < 4294967296) (w:World):(Instr.lookup 112 (.map none) (.int .u32 (s:Int)) false).run Tryz.prog w= .ok (.int .i64 0) w:=by
 have:=Maps.look_nil (P:=Tryz.prog) (w:=w) false zmL Tryz.underlying112 (Tryz.zeroValue3 w) (zfq hs);exact this
theorem zby (w:World) (b:Nat) (o:Obj):w.grownBy (setBlock w b o) (some b):=⟨rfl,rfl,rfl,by simp [setBlock],fun i _ hi=> by
 show (w.heap.setIfInBounds b o)[i]? =_
 rw [Array.getElem?_setIfInBounds_ne (fun e=> hi (by rw [e]))]⟩
theorem zbT.put {w:World} {b:Nat} {L:List Uc} (h:zbT w b L) {s v:Nat} (hs:s < 4294967296) (hv:v≤1000000000):
 ∃w',(Instr.mapUpdate 112 (.map (some b)) (.int .u32 (s:Int)) (.int .i64 (v:Int))).run Tryz.prog w= .ok () w'∧zbT w' b (zbV L s v)∧w.grownBy w' (some b)∧w'.heap.size=w.heap.size:=by
 obtain ⟨es,clock,h0,AO,hr⟩:=h;have Cl:=zfq hs;rcases zmL.find w Cl es.toList (zdB hr) with ⟨h1,h2⟩ | ⟨j,e0,h1,h2,h3⟩
 ·have ha:=zcE hr h2;refine ⟨setBlock w b (.map (es.push ⟨uV s, .int .i64 (v:Int),clock⟩) (clock+1)), ?_, ?_,zby _ _ _,by simp [setBlock]⟩
  ·show (Instr.mapUpdate 112 (.map (some b)) (uV s) (.int .i64 (v:Int))).run Tryz.prog w=_
   simp [Instr.mapUpdate,run_underlying Tryz.underlying112,MapKept.run_getObj_map h0,zmL.check w _ Cl,h1,MapKept.run_setObj_map _ h0,Result.andThen,setBlock]
  ·rw [zif v ha];refine ⟨_,_,heap_setBlock_same h0 _,MapKept.stamped_push AO h2,by rw [Array.toList_push,List.map_append,hr.eq,List.map_append];rfl,fun p hp=> ?_⟩
   rcases List.mem_append.1 hp with hp | hp
   ·exact hr.ok p hp
   ·simp only [List.mem_singleton] at hp;rw [hp];exact ⟨hs,hv⟩
 ·obtain ⟨p,hp,hk,Ul⟩:=hr.at h2;obtain rfl:=znw (hk.symm.trans h3);have hj:es[j]? =some e0:=by simpa using h2
  refine ⟨setBlock w b (.map (es.modify j fun e=> {e with key:=uV p.1,val:= .int .i64 (v:Int)}) clock), ?_, ?_,zby _ _ _,by simp [setBlock]⟩
  ·show (Instr.mapUpdate 112 (.map (some b)) (uV p.1) (.int .i64 (v:Int))).run Tryz.prog w=_
   simp [Instr.mapUpdate,run_underlying Tryz.underlying112,MapKept.run_getObj_map h0,zmL.check w _ Cl,h1,hj,h3,zmL.stays w Cl,MapKept.run_setObj_map _ h0,Result.andThen,setBlock]
  ·rw [zni _ (zbx AO hr) hp];refine ⟨_,_,heap_setBlock_same h0 _,MapKept.stamped_modify AO _ _ (fun _ _=> rfl) (fun e _ he=> ?_),⟨?_,fun q hq=> ?_⟩⟩
   ·rw [hj] at he;have he:=Option.some.inj he
    show uV p.1=e.key
    rw [← he,h3]
   ·rw [Array.toList_modify,modify_eq_set _ _ _ _ h2,List.map_set,List.map_set,hr.eq]
    rfl
   ·rcases List.mem_or_eq_of_mem_set hq with hq | hq
    ·exact hr.ok q hq
    ·rw [hq];exact ⟨hs,hv⟩
theorem zef {α β:Type} (f:α→β):∀(l:List α) (j:Nat),(l.eraseIdx j).map f=(l.map f).eraseIdx j
 | [],_=> rfl
 | _::_,0=> rfl
 | x::l,j+1=> by simp [List.eraseIdx,zef f l j]
theorem zbT.del {w:World} {b:Nat} {L:List Uc} (h:zbT w b L) {s:Nat} (hs:s < 4294967296) (ty:TypeId):
 ∃w',(Builtin.delete_ #[112,86] ty #[.map (some b), .int .u32 (s:Int)]).run Tryz.prog w= .ok (.tuple #[]) w'∧zbT w' b (zet L s)∧w.grownBy w' (some b)∧w'.heap.size=w.heap.size:=by
 obtain ⟨es,clock,h0,AO,hr⟩:=h;have Cl:=zfq hs;rcases zmL.find w Cl es.toList (zdB hr) with ⟨h1,h2⟩ | ⟨j,e0,h1,h2,h3⟩
 ·have ha:=zcE hr h2;refine ⟨setBlock w b (.map es clock), ?_, ?_,zby _ _ _,by simp [setBlock]⟩
  ·show (Builtin.delete_ #[112,86] ty #[.map (some b),uV s]).run Tryz.prog w=_
   simp [Builtin.delete_,run_underlying Tryz.underlying112,MapKept.run_getObj_map h0,zmL.check w _ Cl,h1,MapKept.run_setObj_map _ h0,Result.andThen,setBlock]
  ·rw [zhI ha];exact ⟨_,_,heap_setBlock_same h0 _,AO,hr⟩
 ·obtain ⟨p,hp,hk,Ul⟩:=hr.at h2;obtain rfl:=znw (hk.symm.trans h3);have yZ:j < es.size:=by simpa using (zi h2).1
  have AP:(es.eraseIdxIfInBounds j).toList=es.toList.eraseIdx j:=by
   unfold Array.eraseIdxIfInBounds;rw [dif_pos yZ];simp
  refine ⟨setBlock w b (.map (es.eraseIdxIfInBounds j) clock), ?_, ?_,zby _ _ _,by simp [setBlock]⟩
  ·show (Builtin.delete_ #[112,86] ty #[.map (some b),uV p.1]).run Tryz.prog w=_
   simp [Builtin.delete_,run_underlying Tryz.underlying112,MapKept.run_getObj_map h0,zmL.check w _ Cl,h1,MapKept.run_setObj_map _ h0,Result.andThen,setBlock]
  ·rw [zmb (zbx AO hr) hp];refine ⟨_,_,heap_setBlock_same h0 _,MapKept.stamped_erase AO j,by rw [AP,zef,hr.eq,← zef],fun q hq=> hr.ok q ((List.eraseIdx_sublist _ _).subset hq)⟩
theorem zcl {P:Program} {w:World} {ops:Array Oper} {rest:List Oper} {o:Oper} {a:Act} {Q:Exit→Act→World→Prop} (Ib:o.guard=none) (m x:Operand) (t k:TypeId)
 (ho:o.op= .call {callee:= .builtin .delete,args:=#[m,x],argTypes:=#[t,k]}) {w':World} (Be:(Builtin.delete_ #[t,k] o.type #[a.eval m,a.eval x]).run P w= .ok (.tuple #[]) w') (h:wpList P ops Q rest (a.put o.dst (.tuple #[])) w'):wpList P ops Q (o::rest) a w:=by
 refine wpList_plain Ib fun K' QE=> ?_;unfold Oper.wp;simp [execOp,ho,resolve,invoke,builtin,Be,Result.andThen];exact QE _ _ h
theorem zab {P:Program} {w:World} {ops:Array Oper} {rest:List Oper} {o:Oper} {a:Act} {Q:Exit→Act→World→Prop} (Ib:o.guard=none) (m x v:Operand) (t:TypeId)
 (ho:o.op= .mapUpdate t m x v) {w':World} (Be:(Instr.mapUpdate t (a.eval m) (a.eval x) (a.eval v)).run P w= .ok () w') (h:wpList P ops Q rest (a.put o.dst undef) w'):wpList P ops Q (o::rest) a w:=by
 refine wpList_plain Ib fun K hK=> ?_;unfold Oper.wp;simp [execOp,ho,Be,Result.andThen];exact hK _ _ h
theorem zjS (w:World):(binOp .eql 112 (.map none) (.map none)).run Tryz.prog w= .ok (.bool true) w:=by kernel_rfl
theorem zhM (m:Nat) (w:World):(binOp .eql 112 (.map (some m)) (.map none)).run Tryz.prog w= .ok (.bool false) w:=by kernel_rfl
end
section
def za9 (v b s:Nat):Nat:=v * 79228162514264337593543950336+b * 18446744073709551616+s
theorem zeV {v b s:Nat} (hb:b < 4294967296) (hs:s < 18446744073709551616):zj (za9 v b s)=v:=by unfold zj za9;omega
theorem zdl {v b s:Nat} (hb:b < 4294967296) (hs:s < 18446744073709551616):zo (za9 v b s)=b:=by unfold zo za9;omega
theorem zdm {v b s:Nat} (hs:s < 18446744073709551616):zp (za9 v b s)=s:=by unfold zp za9;omega
theorem zcc (k:Nat):za9 (zj k) (zo k) (zp k)=k:=by unfold za9 zj zo zp;omega
theorem zj2 {v b s:Nat} (hb:b < 4294967296) (hs:s < 18446744073709551616):za2 (za9 v b s)= .agg #[.int .u16 (v:Int), .int .u32 (b:Int), .int .u64 (s:Int)]:=by
 unfold za2;rw [zeV hb hs,zdl hb hs,zdm hs]
theorem zec (k:Nat):zp k < 18446744073709551616:=by unfold zp;omega
theorem zmG (k:Nat):zo k < 4294967296:=by unfold zo;omega
def atL (l:List En) (v b s:Nat):Nat:=
 match zb2 l (za9 v b s) with
 | some e=> if zj e.1=v∧zo e.1=b then e.2 else 0
 | none=> 0
def zlS (l:List En) (b:Nat):Nat:=(l.filter fun x=> decide (x.2=b)).length
def Fit (l:List En):Prop:=∀x ∈ l,x.1≤5192296858534827628530496329220095∧x.2 < 4294967296
structure zcR (n:Nat) (l:List En) (F:List Nat) (L:List Uc):Prop where
 cnt:∀b,0 < b→zan L b=zlS l b
 zero:zan L 0=0
 all:∀x,(0 < x∧x≤n)↔(x ∈ F∨0 < zan L x)
 dis:∀x ∈ F,zan L x=0
theorem zl6 (l:List En) (b:Nat):zlS l b≤l.length:=List.length_filter_le _ _
theorem zgF {l:List En} {e:En} (h:e ∈ l):0 < zlS l e.2:=List.length_pos_iff.2 fun h0=> by
 have:e ∈ l.filter fun x=> decide (x.2=e.2):=List.mem_filter.2 ⟨h,by simp⟩
 rw [h0] at this
 cases this
theorem zbG (x:En) (l:List En) (b:Nat):zlS (x::l) b=(if x.2=b then 1 else 0)+zlS l b:=by
 unfold zlS
 by_cases h:x.2=b
 ·simp [h];omega
 ·simp [h]
theorem zgG {l:List En} {e:En} (hn:e.1 ∉ l.map (·.1)) (b:Nat):zlS (zaR l e) b=zlS l b+if e.2=b then 1 else 0:=by
 induction l with
 | nil=> rw [zaR,zbG];simp [zlS]
 | cons x l ih=>
   simp only [List.map_cons,List.mem_cons,not_or] at hn;unfold zaR
   split
   ·rw [zbG,zbG,ih hn.2];omega
   ·rw [if_neg (fun h=> hn.1 h.symm),zbG];omega
theorem zoo {l:List En} {e:En} {x:En} (hx:x ∈ l) (h:x.1≠e.1):x ∈ zaR l e:=by
 induction l with
 | nil=> cases hx
 | cons y l ih=>
   unfold zaR;rcases List.mem_cons.1 hx with rfl | hx
   ·split
    ·exact List.mem_cons_self
    ·first
      | (rw [if_neg h];exact List.mem_cons_of_mem _ List.mem_cons_self)
      | exact List.mem_cons_of_mem _ List.mem_cons_self
   ·split
    ·exact List.mem_cons_of_mem _ (ih hx)
    ·split
     ·exact List.mem_cons_of_mem _ hx
     ·exact List.mem_cons_of_mem _ (List.mem_cons_of_mem _ hx)
theorem zqz (l:List En) (e:En):e ∈ zaR l e:=by
 induction l with
 | nil=> exact List.mem_cons_self
 | cons y l ih=>
   unfold zaR
   split
   ·exact List.mem_cons_of_mem _ ih
   ·split
    ·exact List.mem_cons_self
    ·exact List.mem_cons_self
theorem zrV {l:List En} {e:En} (hr:zac l) (hn:e.1 ∉ l.map (·.1)):(zaR l e).length=l.length+1:=by
 rw [zeZ l e hr];have:(zdi l e.1).isSome=false:=by
  clear hr
  induction l with
  | nil=> rfl
  | cons x l ih=>
    simp only [List.map_cons,List.mem_cons,not_or] at hn;unfold zdi;rw [if_neg (fun h=> hn.1 h.symm)];exact ih hn.2
 simp [this]
theorem zcR.hole {n:Nat} {l:List En} {F:List Nat} {L:List Uc} (h:zcR n l F L) {k:Nat} (hn:k ∉ l.map (·.1)):zcR n (zaR l (k,0)) F L:=
 ⟨fun b hb=> by rw [h.cnt b hb,zgG hn,if_neg (by show ¬0=b;omega)];rfl,h.zero,h.all,h.dis⟩
theorem zcR.share {n:Nat} {l:List En} {F:List Nat} {L:List Uc} (h:zcR n l F L) {k a:Nat} (hn:k ∉ l.map (·.1)) (ha:0 < a) (hc:0 < zan L a) (Ad:∀x,zan (zbV L a (zan L a+1)) x=if x=a then zan L a+1 else zan L x):zcR n (zaR l (k,a)) F (zbV L a (zan L a+1)):=by
 refine ⟨fun b hb=> ?_, ?_,fun x=> ?_,fun x hx=> ?_⟩
 ·rw [Ad,zgG hn]
  by_cases e:b=a
  ·rw [if_pos e,if_pos e.symm,← h.cnt b hb,e]
  ·rw [if_neg e,if_neg (fun h=> e h.symm),← h.cnt b hb];rfl
 ·rw [Ad,if_neg (by omega)];exact h.zero
 ·rw [Ad,h.all]
  by_cases e:x=a
  ·rw [if_pos e,e];exact ⟨fun _=> .inr (by omega),fun _=> .inr hc⟩
  ·rw [if_neg e]
 ·rw [Ad,if_neg (fun e=> by have:=h.dis x hx;rw [e] at this;omega)]
  exact h.dis x hx
theorem zcR.take {n:Nat} {l:List En} {F:List Nat} {L:List Uc} (h:zcR n l F L) (hF:F.Nodup) {k a:Nat} (hn:k ∉ l.map (·.1)) (ha:a ∈ F) (Ad:∀x,zan (zbV L a (zan L a+1)) x=if x=a then zan L a+1 else zan L x):zcR n (zaR l (k,a)) (F.erase a) (zbV L a (zan L a+1)):=by
 have Mf:=h.dis a ha;have BP:=((h.all a).2 (.inl ha)).1;refine ⟨fun b hb=> ?_, ?_,fun x=> ?_,fun x hx=> ?_⟩
 ·rw [Ad,zgG hn]
  by_cases e:b=a
  ·rw [if_pos e,if_pos e.symm,← h.cnt b hb,e]
  ·rw [if_neg e,if_neg (fun h=> e h.symm),← h.cnt b hb];rfl
 ·rw [Ad,if_neg (by omega)];exact h.zero
 ·rw [Ad,h.all,hF.mem_erase_iff]
  by_cases e:x=a
  ·rw [if_pos e,e];exact ⟨fun _=> .inr (by omega),fun _=> .inl ha⟩
  ·rw [if_neg e];simp [e]
 ·have Q7:=hF.mem_erase_iff.1 hx;rw [Ad,if_neg Q7.1];exact h.dis x Q7.2
theorem zcR.empty (n:Nat) (F:List Nat) (hF:∀x,x ∈ F↔0 < x∧x≤n):zcR n [] F []:=
 ⟨fun b _=> rfl,rfl,fun x=> by rw [hF];simp [zan],fun x _=> rfl⟩
def zao (l:List En):List En→List En
 | []=> l
 | e::es=> zao (zaJ l e.1) es
theorem zog {l:List En} (hr:zac l) {e x:En} (he:e ∈ l):x ∈ zaJ l e.1↔x ∈ l∧x≠e:=by
 induction l with
 | nil=> cases he
 | cons y l ih=>
   have hy:=(List.pairwise_cons.1 hr).1;unfold zaJ;rcases List.mem_cons.1 he with rfl | he
   ·rw [if_neg (by omega),if_pos rfl]
    constructor
    ·intro hx;exact ⟨List.mem_cons_of_mem _ hx,fun e2=> by have:=hy x hx;rw [e2] at this;omega⟩
    ·rintro ⟨hx,Aj⟩;rcases List.mem_cons.1 hx with rfl | hx
     ·exact absurd rfl Aj
     ·exact hx
   ·have hlt:=hy e he;rw [if_pos hlt,List.mem_cons,List.mem_cons,ih (List.pairwise_cons.1 hr).2 he]
    constructor
    ·rintro (rfl | ⟨h1,h2⟩)
     ·exact ⟨.inl rfl,fun e2=> by rw [e2] at hlt;omega⟩
     ·exact ⟨.inr h1,h2⟩
    ·rintro ⟨rfl | h1,h2⟩
     ·exact .inl rfl
     ·exact .inr ⟨h1,h2⟩
theorem ziI {l:List En} (hr:zac l) {e:En} (he:e ∈ l):zaJ l e.1=l.filter fun x=> decide (x≠e):=by
 induction l with
 | nil=> cases he
 | cons y l ih=>
   have hy:=(List.pairwise_cons.1 hr).1;unfold zaJ;rcases List.mem_cons.1 he with rfl | he
   ·rw [if_neg (by omega),if_pos rfl,List.filter_cons_of_neg (by simp)]
    refine (List.filter_eq_self.2 fun x hx=> ?_).symm;have:=hy x hx;simp only [ne_eq,decide_not,Bool.not_eq_true',decide_eq_false_iff_not];intro e2;rw [e2] at this
    omega
   ·have hlt:=hy e he;rw [if_pos hlt,List.filter_cons_of_pos (by simp only [ne_eq,decide_not,Bool.not_eq_true',decide_eq_false_iff_not];intro e2;rw [e2] at hlt;omega),ih (List.pairwise_cons.1 hr).2 he]
theorem zct:∀{es l:List En},zac l→(∀e ∈ es,e ∈ l)→es.Nodup→zao l es=l.filter fun x=> decide (x ∉ es)
 | [],l,_,_,_=> by
   show l=_
   exact (List.filter_eq_self.2 fun x _=> by simp).symm
 | e::es,l,hr,hs,hn=> by
   have IE:=List.nodup_cons.1 hn;have he:=hs e List.mem_cons_self
   show zao (zaJ l e.1) es=_
   rw [zct (zhH hr) (fun x hx=> (zog hr he).2 ⟨hs x (List.mem_cons_of_mem _ hx),fun e2=> IE.1 (by rw [← e2];exact hx)⟩) IE.2,ziI hr he,List.filter_filter]
   refine List.filter_congr fun x _=> ?_
   by_cases h1:x=e <;> by_cases h2:x ∈ es <;> simp [h1,h2]
theorem zek {l:List En} (h:zac l):l.Nodup:=List.Pairwise.imp (fun {a b} Dh e=> by rw [e] at Dh;omega) h
end
section
open Go.RowKit
theorem mLen : (Tryz.prog.info? 214).map (fun i => (i.methods.find? (fun x => x.name == "Len")).map fun m => (m.path.toList, m.func)) = some (some ([], some (251, false))) := by kernel_rfl
theorem mLess : (Tryz.prog.info? 214).map (fun i => (i.methods.find? (fun x => x.name == "Less")).map fun m => (m.path.toList, m.func)) = some (some ([], some (252, false))) := by kernel_rfl
theorem mSwap : (Tryz.prog.info? 214).map (fun i => (i.methods.find? (fun x => x.name == "Swap")).map fun m => (m.path.toList, m.func)) = some (some ([], some (253, false))) := by kernel_rfl
theorem zpP (v:Array Value) (w:World):(callFunc 251 v).run Tryz.prog w= .ok (.enter 251 v) w:=by kernel_rfl
theorem zoI (v:Array Value) (w:World):(callFunc 252 v).run Tryz.prog w= .ok (.enter 252 v) w:=by kernel_rfl
theorem zmo (v:Array Value) (w:World):(callFunc 253 v).run Tryz.prog w= .ok (.enter 253 v) w:=by kernel_rfl
theorem zpQ (v:Array Value) (w:World):(callFunc 257 v).run Tryz.prog w= .ok (.enter 257 v) w:=by kernel_rfl
theorem fnPop (v:Array Value) (w:World):(callFunc 256 v).run Tryz.prog w= .ok (.enter 256 v) w:=by kernel_rfl
theorem zmQ {P:Program} {t:TypeId} {name:String} {g:FuncId × Bool} (h:(P.info? t).map (fun i=> (i.methods.find? (fun x=> x.name==name)).map fun m=> (m.path.toList,m.func))=some (some ([],some g))):
 ∃i,P.info? t=some i∧∃m,i.methods.find? (fun x=> x.name==name)=some m∧m.path.toList= []∧m.func=some g:=by
 cases hi:P.info? t with
 | none=> rw [hi] at h;cases h
 | some i=>
   rw [hi] at h;simp only [Option.map_some,Option.some.injEq] at h
   cases hm:i.methods.find? (fun x=> x.name==name) with
   | none=> rw [hm] at h;cases h
   | some m=>
     rw [hm] at h;simp only [Option.map_some,Option.some.injEq,Prod.mk.injEq] at h;exact ⟨i,rfl,m,hm,h.1,h.2⟩
theorem zpY (P:Program) (t:TypeId) (a:Addr) (x y:ByteArray) (w:World):(Builtin.ssaWrapNilChk_ #[t] t #[.pointer (some a), .string x, .string y]).run P w= .ok (.pointer (some a)) w:=rfl
theorem zcf {P:Program} {t e:TypeId} {name:String} {f:FuncId} (h:(P.info? t).map (fun i=> (i.methods.find? (fun x=> x.name==name)).map fun m=> (m.path.toList,m.func))=some (some ([],some (f,false))))
 (ht:P.underlying t=some (.pointer e)) (he:∀w,(isAgg e).run P w= .ok false w) (b:Nat) (v:Value) (w:World) (k:Nat) (hc:w.cell? ⟨b,0,none⟩=some v):
 (method (k+1) t (.pointer (some ⟨b,0,none⟩)) name).run P w= .ok (f,v) w:=by
 obtain ⟨i,hi,m,hm,hp,hg⟩:=zmQ h;have YQ:m.path=#[]:=by rw [← Array.toList_inj];exact hp
 unfold method;simp [run_typeInfo w hi,hm,YQ,hg,follow,receiverAt,run_underlying ht,Place.get,zpY,loadVar,he,asAddr,Result.andThen,strVal,hc]
theorem zgX (w:World):(isAgg 157).run Tryz.prog w= .ok false w:=by kernel_rfl
theorem zmC (b : Nat) (v : Value) (w : World) (hc : w.cell? ⟨b, 0, none⟩ = some v) : (method 458 214 (.pointer (some ⟨b, 0, none⟩)) "Len").run Tryz.prog w = .ok (251, v) w := zcf mLen Tryz.underlying214 zgX b v w 457 hc
theorem zgW (b : Nat) (v : Value) (w : World) (hc : w.cell? ⟨b, 0, none⟩ = some v) : (method 458 214 (.pointer (some ⟨b, 0, none⟩)) "Less").run Tryz.prog w = .ok (252, v) w := zcf mLess Tryz.underlying214 zgX b v w 457 hc
theorem zdO (b : Nat) (v : Value) (w : World) (hc : w.cell? ⟨b, 0, none⟩ = some v) : (method 458 214 (.pointer (some ⟨b, 0, none⟩)) "Swap").run Tryz.prog w = .ok (253, v) w := zcf mSwap Tryz.underlying214 zgX b v w 457 hc
theorem zn4 (b : Nat) (w : World) : (method 458 214 (.pointer (some ⟨b, 0, none⟩)) "Push").run Tryz.prog w = .ok (257, .pointer (some ⟨b, 0, none⟩)) w := by kernel_rfl
theorem zpe (b : Nat) (w : World) : (method 458 214 (.pointer (some ⟨b, 0, none⟩)) "Pop").run Tryz.prog w = .ok (256, .pointer (some ⟨b, 0, none⟩)) w := by kernel_rfl
theorem zl0 (x:Int) (w:World):(Instr.typeAssert (.iface 86 (.int .u32 x)) 20 86 false).run Tryz.prog w= .ok (.int .u32 x) w:=by kernel_rfl
theorem infoU:(Tryz.prog.info? 86).map (fun i=> (i.zero,i.size,i.bytes))=some (some (.int .u32 0),1,4):=by kernel_rfl
def zaI (w:World) (p g c:Nat) (mv:Value) (F:List Nat):Prop:=w.heap[p]? =some (.cells #[.slice (some ⟨g,0,none⟩) F.length c,mv] 159 (0,0))∧w.ownsRow 0 86 1 (.slice (some ⟨g,0,none⟩) F.length c) F.length (F.map uV)
theorem zaI.at {w:World} {p g c:Nat} {mv:Value} {F:List Nat} (h:zaI w p g c mv F) {i:Nat} {x:Nat} (hi:F[i]? =some x):w.cell? ⟨g,i,none⟩=some (.int .u32 (x:Int)):=by
 have:=h.2.cells (g:=g) rfl i (uV x) (by rw [List.getElem?_map,hi];rfl)
 rw [zdt,Nat.zero_add] at this;exact this
theorem zaI.cell {w:World} {p g c:Nat} {mv:Value} {F:List Nat} (h:zaI w p g c mv F):w.cell? ⟨p,0,none⟩=some (.slice (some ⟨g,0,none⟩) F.length c):=by simp [World.cell?,h.1]
theorem zaI.ne {w:World} {p g c:Nat} {mv:Value} {F:List Nat} (h:zaI w p g c mv F):p≠g:=by
 rintro rfl;rcases h.2.2 with ⟨e,_⟩ | ⟨g',cap,cur,e,_,hh,_⟩
 ·cases e
 ·cases e
  rw [h.1] at hh
  cases hh
theorem zaI.glt {w:World} {p g c:Nat} {mv:Value} {F:List Nat} (h:zaI w p g c mv F):g < w.heap.size:=by
 rcases h.2.2 with ⟨e,_⟩ | ⟨g',cap,cur,e,_,hh,_⟩
 ·cases e
 ·cases e
  exact (zg hh).1
theorem zq (w:World) (a:Addr) (x:Value):w.grownBy (w.setCell a x) (some a.block):=⟨rfl,rfl,rfl,by simp,fun i _ hi=> heap_setCell_other _ _ _ _ (fun e=> hi (by rw [e]))⟩
theorem zaI.swap {w:World} {p g c:Nat} {mv:Value} {F:List Nat} (h:zaI w p g c mv F) {i j x y:Nat} (hi:F[i]? =some x) (hj:F[j]? =some y):
 zaI ((w.setCell ⟨g,i,none⟩ (.int .u32 (y:Int))).setCell ⟨g,j,none⟩ (.int .u32 (x:Int))) p g c mv ((F.set i y).set j x)∧((F.set i y).set j x).Perm F∧w.grownBy ((w.setCell ⟨g,i,none⟩ (.int .u32 (y:Int))).setCell ⟨g,j,none⟩ (.int .u32 (x:Int))) (some g):=by
 have hg:=(zq w ⟨g,i,none⟩ (.int .u32 (y:Int))).trans (zq (w.setCell ⟨g,i,none⟩ (.int .u32 (y:Int))) ⟨g,j,none⟩ (.int .u32 (x:Int)));obtain ⟨Bb,rfl⟩:=zi hi;obtain ⟨EB,rfl⟩:=zi hj;refine ⟨⟨?_, ?_⟩,List.set_set_perm Bb EB,hg⟩
 ·rw [hg.block p (zg h.1).1 (fun e=> h.ne (Option.some.inj e)),List.length_set,List.length_set];exact h.1
 ·have h1:=((h.2.stored i (.int .u32 (F[j]:Int))).1.stored j (.int .u32 (F[i]:Int))).1;rw [List.length_set,List.length_set,List.map_set,List.map_set];exact h1
theorem zbP {p g c:Nat} {mv:Value} {F:List Nat} {w:World} (h:zaI w p g c mv F) (n i j:Nat) (hn:n=F.length) (hi:i < n) (hj:j < n) (_hk:n≤1000000):
 Calls Tryz.prog 252 #[.slice (some ⟨g,0,none⟩) n c, .int .i64 (i:Int), .int .i64 (j:Int)] w fun e w'=> (∃b,e= .returned (.bool b))∧∃q,w'=w.drewN q:=by
 have c0:=h.at (ze (show i < F.length by omega))
 have c1:=h.at (ze (show j < F.length by omega))
 generalize F[i]=x at c0;generalize F[j]=y at c1;have AD:(0:Int)≤(i:Int):=by omega
 have Bb:(i:Int) < (n:Int):=by omega
 have MA:(0:Int)≤(j:Int):=by omega
 have EB:(j:Int) < (n:Int):=by omega
 clear h hn;go_enter Tryz.func252,Tryz.ntmps252;go_wp2_with fail
 go_quiet (fail)
 all_goals
  go_wp2_with fail;go_ret;exact ⟨⟨_,rfl⟩,_,rfl⟩
theorem zgw (a:Option Addr) (n c:Nat) (w:World):Calls Tryz.prog 251 #[.slice a n c] w fun e w'=> e= .returned (.int .i64 (n:Int))∧w'=w:=by
 go_enter Tryz.func251,Tryz.ntmps251;go_wp2_with fail;go_ret;exact ⟨rfl,rfl⟩
theorem zbQ {p g c:Nat} {mv:Value} {F:List Nat} {w:World} (h:zaI w p g c mv F) (n i j:Nat) (hn:n=F.length) (hi:i < n) (hj:j < n) (_hk:n≤1000000):
 Calls Tryz.prog 253 #[.slice (some ⟨g,0,none⟩) n c, .int .i64 (i:Int), .int .i64 (j:Int)] w fun e w'=> e= .returned (.tuple #[])∧∃F',F'.Perm F∧zaI w' p g c mv F'∧w.grownBy w' (some g):=by
 obtain ⟨x,hx⟩:∃x,F[i]? =some x:=⟨_,ze (show i < F.length by omega)⟩
 obtain ⟨y,hy⟩:∃y,F[j]? =some y:=⟨_,ze (show j < F.length by omega)⟩
 have c0:=h.at hx;have c1:=h.at hy;have AD:(0:Int)≤(i:Int):=by omega
 have Bb:(i:Int) < (n:Int):=by omega
 have MA:(0:Int)≤(j:Int):=by omega
 have EB:(j:Int) < (n:Int):=by omega
 have HF:=zh (h.swap hx hy);obtain ⟨-,Kt⟩:=h.2;rcases Kt with ⟨e,_⟩ | ⟨g',cap,cur,e,_,hh,Ge,Ce,Fo,_⟩
 ·cases e
 cases e
 have f0:w.frozen? ⟨g,i,none⟩=false:=by simp [World.frozen?,hh]
 have f1:w.frozen? ⟨g,j,none⟩=false:=by simp [World.frozen?,hh]
 have f2:(w.setCell ⟨g,i,none⟩ (.int .u32 (y:Int))).frozen? ⟨g,j,none⟩=false:=(World.frozen?_setCell _ _ _ _).trans f1;have c2:(w.setCell ⟨g,i,none⟩ (.int .u32 (y:Int))).cell? ⟨g,j,none⟩=some (.int .u32 (y:Int)):=by
  have:=(h.2.stored i (.int .u32 (y:Int))).1.cells (g:=g) rfl j (uV y) (by
   rw [List.getElem?_set]
   split
   ·rw [if_pos (by rw [List.length_map];omega)];rfl
   ·rw [List.getElem?_map,hy];rfl)
  rw [zdt,Nat.zero_add] at this;exact this
 clear h hn hx hy hh;go_enter Tryz.func253,Tryz.ntmps253;go_wp2_with fail
 go_region_law fail
 all_goals
  go_wp2_with fail;go_end0;exact ⟨rfl,_,HF.out.2.1,HF.out.1,⟨HF.out.2.2.os,HF.out.2.2.tape,HF.out.2.2.output,HF.out.2.2.size,HF.out.2.2.block⟩⟩
theorem zaI.drewN {w:World} {p g c:Nat} {mv:Value} {F:List Nat} (h:zaI w p g c mv F) (q:Nat):zaI (w.drewN q) p g c mv F:=by
 induction q generalizing w with
 | zero=> exact h
 | succ q ih=> exact ih h
theorem zbI {w w':World} {r:Option Nat} (h:w.grownBy w' r) (q:Nat):w.grownBy (w'.drewN q) r:=by
 induction q with
 | zero=> exact h
 | succ q ih=> exact ⟨ih.os,ih.tape,ih.output,ih.size,ih.block⟩
theorem zdU {F F':List Nat} (h:F'.Perm F):F'.length=F.length:=h.length_eq
theorem zp1 {p g c:Nat} {mv:Value} {F:List Nat} {w:World} (h:zaI w p g c mv F) (k:Nat) (hk:k < F.length) (hF:F.length≤100000):
 Calls Tryz.prog 179 #[.iface 214 (.pointer (some ⟨p,0,none⟩)), .int .i64 (k:Int)] w fun e w'=> e= .returned (.tuple #[])∧∃F',F'.Perm F∧zaI w' p g c mv F'∧w.grownBy w' (some g):=by
 have HH:=zh h;have hf:=zoI;have kw:=zmo;clear h;go_enter Tryz.func179,Tryz.ntmps179;go_wp2_with fail
 go_loopw [1] (fun u1 wr=> ∃(j:Nat) (F':List Nat),u1= .int .i64 j∧j < F.length∧F'.Perm F∧zaI wr p g c mv F'∧w.grownBy wr (some g)) (fun u1 _=> (intOf u1).toNat)
 case atStart=> exact ⟨k,F,rfl,hk,List.Perm.refl _,HH.out,World.grownBy.refl _ _⟩
 case round=>
  obtain ⟨j,F',rfl,hj,hP,hW,hG⟩:=hrel;have Ac:=zdU hP;have HW:=zh hW;have HG:=zh hG;have HP:=zh hP;have hc:=hW.cell;rw [Ac] at hc;have hv:=zgW p _ wr hc
  by_cases MA:j=0
  ·subst MA;clear hW hG hP Ac hv;go_wp2_with fail;go_end0;exact ⟨rfl,F',HP.out,HW.out,HG.out⟩
  ·have hq:(j - 1) / 2 < j:=by omega
   have HL:=zh (zbP hW F.length j ((j - 1) / 2) Ac.symm hj (by omega) (by omega))
   have s1:IntKind.i64.wrap ((j:Int) - 1)=(j:Int) - 1:=zw _ (by omega)
   have s2:((j:Int) - 1).tdiv 2=(((j - 1) / 2:Nat):Int):=by
        rw [show (j:Int) - 1=((j - 1:Nat):Int) by omega]
        rfl
   have s3:((((j - 1) / 2:Nat):Int)==(j:Int))=false:=by rw [beq_eq_false_iff_ne];omega
   have s4:IntKind.i64.wrap (((j - 1) / 2:Nat):Int)=(((j - 1) / 2:Nat):Int):=zw _ (by omega)
   clear hW hG hP;generalize (j - 1) / 2=q at *;generalize F.length=n at *;go_wp2_with fail;refine HL.out.mono ?_;rintro e w2 ⟨⟨b,rfl⟩,q2,rfl⟩;have Hn:=zh (HW.out.drewN q2);have Ff:=zh (zbI HG.out q2);have Bd:=Hn.out.cell;rw [Ac] at Bd;have Ef:=zdO p _ _ Bd
   cases b
   ·go_wp2_with fail;go_end0;exact ⟨rfl,F',HP.out,Hn.out,Ff.out⟩
   ·have HS:=zh (zbQ Hn.out n q j Ac.symm (by omega) (by omega) (by omega))
    go_wp2_with fail;refine HS.out.mono ?_;rintro e w3 ⟨rfl,F2,Hr,Fi,AM⟩;have HR:=zh (zn (Hr.trans HP.out) (zn Fi (Ff.out.trans AM)));clear Hr Fi AM;go_wp2_with fail
    go_roundw
    case rel=> exact ⟨q,F2,rfl,by omega,HR.out.1,HR.out.2.1,HR.out.2.2⟩
    case measure=> simp [intOf];omega
end
end Go.Proofs.YtfldlfladcfggaaGreat
