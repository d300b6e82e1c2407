/- Lemmas of the walks, merged and pressed by press.py. Conditions: those of each theorem. -/
import Derived.Test.YtfldlfladcfggaaGreatM3
import Derived.Lib.OthersKept
import Derived.Deep.RegionLaw
set_option maxRecDepth 100000
set_option maxHeartbeats 64000000
set_option linter.all false
namespace Go.Proofs.YtfldlfladcfggaaGreat
section
open Go.RowKit
def PO.zero:PO:=⟨0,0,0,0,0,0, [], []⟩
def zq4 (w:World) (A:Nat) (k v i b n pt:Int) (dv mv:Value):Prop:=
 w.cell? ⟨A,0,none⟩=some (.int .i64 k)∧w.cell? ⟨A,1,none⟩=some (.int .i64 v)∧w.cell? ⟨A,2,none⟩=some (.int .i64 i)∧w.cell? ⟨A,3,none⟩=some (.int .i64 b)∧
 w.cell? ⟨A,4,none⟩=some (.int .i64 n)∧w.cell? ⟨A,5,none⟩=some (.int .u64 pt)∧w.cell? ⟨A,6,none⟩=some dv∧w.cell? ⟨A,7,none⟩=some mv
theorem zq4.new (w:World) (k v i b n pt:Int) (dv mv:Value):zq4 (w.alloc (.cells #[.int .i64 k, .int .i64 v, .int .i64 i, .int .i64 b, .int .i64 n, .int .u64 pt,dv,mv] 28)) w.heap.size k v i b n pt dv mv:=by
 refine ⟨?_, ?_, ?_, ?_, ?_, ?_, ?_, ?_⟩ <;> simp
theorem zq4.below {B:Nat} {w w':World} {A:Nat} {k v i b n pt:Int} {dv mv:Value} (h:zq4 w A k v i b n pt dv mv) (hb:Below B w w') (hA:A < B):zq4 w' A k v i b n pt dv mv:=by
 obtain ⟨h0,h1,h2,h3,h4,h5,h6,h7⟩:=h;refine ⟨?_, ?_, ?_, ?_, ?_, ?_, ?_, ?_⟩ <;> rw [hb.cell hA] <;> assumption
theorem zsn {w:World} {B C:Nat} {e:TypeId} {size n:Nat} {v:Value} {xs:List Value} (h:w.ownsRow B e size v n xs) (hC:C≤B):w.ownsRow C e size v n xs:=by
 refine ⟨h.1, ?_⟩;rcases h.2 with h2 | ⟨g,cap,cur,hv,hg,r⟩
 ·exact .inl h2
 ·exact .inr ⟨g,cap,cur,hv,by omega,r⟩
theorem zq3 {w w':World} {B C:Nat} {e:TypeId} {size n:Nat} {v:Value} {xs:List Value} (h:w.ownsRow B e size v n xs) (hb:Below C w w') (hC:w.heap.size≤C):w'.ownsRow B e size v n xs:=by
 refine ⟨h.1, ?_⟩;rcases h.2 with h2 | ⟨g,cap,cur,hv,hg,hh,r⟩
 ·exact .inl h2
 ·have hlt:=(zg hh).1;exact .inr ⟨g,cap,cur,hv,hg,by rw [hb.block g (by omega)];exact hh,r⟩
theorem zru {w:World} {b1 b2:Nat} {e1 e2:TypeId} {s1 s2 n1 n2:Nat} {v1 v2:Value} {x1 x2:List Value} (h1:w.ownsRow b1 e1 s1 v1 n1 x1) (h2:w.ownsRow b2 e2 s2 v2 n2 x2) (he:e1≠e2):v1.ownBlock=none∨v1.ownBlock≠v2.ownBlock:=by
 rcases h1.2 with ⟨rfl,-⟩ | ⟨g,cap,cur,rfl,hg,hh,r⟩
 ·exact .inl rfl
 ·right
  intro e;rcases h2.2 with ⟨rfl,-⟩ | ⟨g',cap',cur',rfl,IB,y9,r'⟩
  ·cases e
  ·simp only [Value.ownBlock,Option.some.injEq] at e;subst e;rw [hh] at y9;simp only [Option.some.injEq,Obj.cells.injEq] at y9;exact he y9.2.1
theorem zsJ {P : Program} {w : World} {ops : Array Oper} {o : Oper} {a : Act} {K : Act → World → Prop} {Q : Exit → Act → World → Prop} {E : Prop} (hw : Region.wanted o (yielded ops a.tmps) = true) (f : FuncId) {fn : Func} {c : Code} (hf : P.funcs[f]? = some fn) (TB : (fn.name == "runtime.NumGoroutine") = false) (hb : fn.body = some c) (xs : Array Operand) (ts : Array TypeId)
 (ho:o.op= .call {callee:= .value (.func f),args:=xs,argTypes:=ts}) (args:Array Value) (Sb:xs.map a.eval=args) {R:Ending→World→Prop} (hc:Calls P f args w R) (h:∀e w',R e w'→∃v,e= .returned v∧K (a.put o.dst v) w'):if Region.wanted o (yielded ops a.tmps)=true then Oper.wp P o a w K Q else E:=by
 rw [if_pos hw];unfold Oper.wp;have Be:(execOp a.eval o).run P w= .ok (.enter f args) w:=by
  subst Sb;unfold execOp;simp [ho,resolve,invoke,Act.eval,Deferred.ofValue,callFunc,hf,hb]
  simpa using TB
 rw [Be,Oper.upon_enter];exact hc.mono fun e w' hR=> by obtain ⟨v,rfl,hk⟩:=h e w' hR;exact hk
theorem ztd {w:World} {B:Nat} {o:PO} {dv mv:Value} (hd:w.ownsRow B 5 1 dv o.d.length (zc o.d)) (hm:w.ownsRow B 3 1 mv o.m.length (o.m.map (.int .i64))):
 ∃da dc ma mc,dv= .slice da o.d.length dc∧mv= .slice ma o.m.length mc∧Bs w da o.d.length o.d∧Is .i64 w ma o.m.length o.m:=by
 obtain ⟨da,dc,Nx,eV,-⟩:=zpZ hd;obtain ⟨ma,mc,eX,KJ,-⟩:=zpZ hm;refine ⟨da,dc,ma,mc,Nx,eX, ?_,KJ⟩;unfold Bs Is;rw [List.map_map];exact eV
def zf4 (o:PO) (dv mv:Value):List Value:= [.int .i64 o.k, .int .i64 o.v, .int .i64 o.i, .int .i64 o.b, .int .i64 o.n, .int .u64 o.pt,dv,mv]
def zrG (w:World) (o:PO) (dv mv:Value):Prop:=∃da dc ma mc,dv= .slice da o.d.length dc∧mv= .slice ma o.m.length mc∧Bs w da o.d.length o.d∧Is .i64 w ma o.m.length o.m
theorem zrG.below {w w':World} {C:Nat} {o:PO} {dv mv:Value} (h:zrG w o dv mv) (hb:Below C w w') (hC:w.heap.size≤C):zrG w' o dv mv:=by
 obtain ⟨da,dc,ma,mc,h1,h2,h3,h4⟩:=h;exact ⟨da,dc,ma,mc,h1,h2,Is.below h3 hb hC,Is.below h4 hb hC⟩
def Ops (w:World) (a:Option Addr) (n:Nat) (l:List PO):Prop:=
 l.length=n∧∀i o,l[i]? =some o→∃b p dv mv,a=some ⟨b,p,none⟩∧(∀j x,(zf4 o dv mv)[j]? =some x→w.cell? ⟨b,p+i * 8+j,none⟩=some x)∧zrG w o dv mv
theorem Ops.below {w w':World} {C:Nat} {a:Option Addr} {n:Nat} {l:List PO} (h:Ops w a n l) (hb:Below C w w') (hC:w.heap.size≤C):Ops w' a n l:=by
 refine ⟨h.1,fun i o ho=> ?_⟩;obtain ⟨b,p,dv,mv,ha,hc,hv⟩:=h.2 i o ho;refine ⟨b,p,dv,mv,ha,fun j x hx=> ?_,hv.below hb hC⟩;have h1:=hc j x hx;have h2:=zb _ _ h1;rw [hb.cell (p:=⟨b,p+i * 8+j,none⟩) (by show b < C;simp at h2;omega)]
 exact h1
theorem Ops.nil (w:World) (a:Option Addr):Ops w a 0 []:=⟨rfl,fun i o ho=> by simp at ho⟩
def zre (w:World) (B:Nat) (o:PO) (dv mv:Value):Prop:=
 (w.ownsRow B 5 1 dv o.d.length (zc o.d)∧w.ownsRow B 3 1 mv o.m.length (o.m.map (.int .i64)))∨∃w0,w0.heap.size≤B∧Below B w0 w∧zrG w0 o dv mv
theorem zre.val {w:World} {B:Nat} {o:PO} {dv mv:Value} (h:zre w B o dv mv):zrG w o dv mv:=by
 rcases h with ⟨h1,h2⟩ | ⟨w0,h0,hb,hv⟩
 ·obtain ⟨da,dc,ma,mc,e1,e2,h3,h4⟩:=ztd h1 h2;exact ⟨da,dc,ma,mc,e1,e2,h3,h4⟩
 ·exact hv.below hb h0
theorem zre.stays {w w':World} {B C:Nat} {o:PO} {dv mv:Value} (h:zre w B o dv mv) (hb:Below C w w') (hC:w.heap.size≤C) (hB:B≤w.heap.size):zre w' B o dv mv:=by
 rcases h with ⟨h1,h2⟩ | ⟨w0,h0,Aq,hv⟩
 ·exact .inl ⟨zq3 h1 hb hC,zq3 h2 hb hC⟩
 ·exact .inr ⟨w0,h0,Aq.trans (hb.mono (by omega)),hv⟩
theorem zre.grown {w w':World} {B:Nat} {o:PO} {dv mv v:Value} {n:Nat} {xs:List Value} (h:zre w B o dv mv) (Af:w.ownsRow B 28 8 v n xs) (hg:w.grownBy w' v.ownBlock) (hB:B≤w.heap.size):zre w' B o dv mv:=by
 rcases h with ⟨h1,h2⟩ | ⟨w0,h0,Aq,hv⟩
 ·exact .inl ⟨h1.kept hg (zru h1 Af (by decide)),h2.kept hg (zru h2 Af (by decide))⟩
 ·exact .inr ⟨w0,h0,Below.own Aq Af hg zl hB,hv⟩
def z8:List PO→List (Value × Value)→List Value
 | o::l,p::ps=> zf4 o p.1 p.2++z8 l ps
 | _,_=> []
theorem zrf (o:PO) (p:Value × Value):∀(l:List PO) (ps:List (Value × Value)),ps.length=l.length→z8 (l++ [o]) (ps++ [p])=z8 l ps++zf4 o p.1 p.2
 | [], [],_=> by simp [z8]
 | [],_::_,h=> by simp at h
 | _::_, [],h=> by simp at h
 | a::l,b::ps,h=> by
   simp only [List.cons_append,z8,zrf o p l ps (by simpa using h),List.append_assoc]
theorem zrc:∀(l:List PO) (ps:List (Value × Value)) (i:Nat) (o:PO) (p:Value × Value) (j:Nat) (x:Value),l[i]? =some o→ps[i]? =some p→(zf4 o p.1 p.2)[j]? =some x→(z8 l ps)[i * 8+j]? =some x
 | [],_,_,_,_,_,_,h,_,_=> by simp at h
 | _::_, [],_,_,_,_,_,_,h,_=> by simp at h
 | a::l,b::ps,0,o,p,j,x,h1,h2,h3=> by
   simp at h1 h2;subst h1 h2;have hj:=(zi h3).1;rw [z8,Nat.zero_mul,Nat.zero_add,List.getElem?_append_left hj];exact h3
 | a::l,b::ps,i+1,o,p,j,x,h1,h2,h3=> by
   simp only [List.getElem?_cons_succ] at h1 h2;have hl:(zf4 a b.1 b.2).length=8:=rfl;rw [z8,List.getElem?_append_right (by rw [hl];omega),hl,show (i+1) * 8+j - 8=i * 8+j by omega]
   exact zrc l ps i o p j x h1 h2 h3
def z7 (w:World) (B:Nat) (v:Value) (l:List PO):Prop:=
 ∃ps:List (Value × Value),ps.length=l.length∧w.ownsRow B 28 8 v l.length (z8 l ps)∧∀(i:Nat) (o:PO) (p:Value × Value),l[i]? =some o→ps[i]? =some p→zre w B o p.1 p.2
theorem z7.nil (w:World) (B:Nat):z7 w B (.slice none 0 0) []:=⟨[],rfl,World.ownsRow_nil _ _ _ _,fun i o p h=> by simp at h⟩
theorem z7.stays {w w':World} {B C:Nat} {v:Value} {l:List PO} (h:z7 w B v l) (hb:Below C w w') (hC:w.heap.size≤C) (hB:B≤w.heap.size):z7 w' B v l:=by
 obtain ⟨ps,h1,h2,h3⟩:=h;exact ⟨ps,h1,zq3 h2 hb hC,fun i o p ho hp=> (h3 i o p ho hp).stays hb hC hB⟩
theorem z7.ops {w:World} {B:Nat} {v:Value} {l:List PO} (h:z7 w B v l):∃a cap,v= .slice a l.length cap∧Ops w a l.length l∧l.length≤cap:=by
 obtain ⟨ps,h1,h2,h3⟩:=h;rcases h2.2 with ⟨rfl,h0⟩ | ⟨g,cap,cur,rfl,Bc,hg,Ge,Ce,Fo,CY⟩
 ·have:l= []:=List.eq_nil_of_length_eq_zero h0;subst this;exact ⟨none,0,rfl,Ops.nil _ _,zl⟩
 ·refine ⟨some ⟨g,0,none⟩,cap,rfl,⟨rfl,fun i o ho=> ?_⟩,Ge⟩;have De:=(zi ho).1;obtain ⟨p,hp⟩:∃p,ps[i]? =some p:=⟨_,ze (by omega)⟩
  refine ⟨g,0,p.1,p.2,rfl,fun j x hx=> ?_,(h3 i o p ho hp).val⟩;have:=h2.cells (g:=g) rfl (i * 8+j) x (zrc l ps i o p j x ho hp hx);rw [← this]
  congr 1
  unfold Addr.add
  split <;> simp_all
theorem zs7:(Tryz.prog.info? 28).map (fun i=> (i.zero,i.size,i.bytes))=some (some (.agg #[.int .i64 0, .int .i64 0, .int .i64 0, .int .i64 0, .int .i64 0, .int .u64 0, .slice none 0 0, .slice none 0 0]),8,96):=by kernel_rfl
theorem z7.push {w:World} {B:Nat} {v:Value} {l:List PO} (h:z7 w B v l) (o:PO) {da ma:Option Addr} {dc mc:Nat} (hv:zre w B o (.slice da o.d.length dc) (.slice ma o.m.length mc)) (hl:l.length≤1000000000) (hB:B≤w.heap.size):
 ∃v' w',(Builtin.append_ #[22,22] 22 #[v, .slice (some ⟨w.heap.size,0,none⟩) 1 1]).run Tryz.prog (w.alloc (.cells #[.int .i64 o.k, .int .i64 o.v, .int .i64 o.i, .int .i64 o.b, .int .i64 o.n, .int .u64 o.pt, .slice da o.d.length dc, .slice ma o.m.length mc] 28))= .ok v' w'∧z7 w' B v' (l++ [o])∧w.grownBy w' v.ownBlock:=by
 obtain ⟨i0,hi,AG,Ai,Ax⟩:=info_parts zs7;obtain ⟨ps,h1,h2,h3⟩:=h;obtain ⟨v',w',hr,Af,hg,_⟩:=zlX (P:=Tryz.prog) Tryz.underlying22 hi AG Ai Ax rfl (by decide) h2 1 (zf4 o (.slice da o.d.length dc) (.slice ma o.m.length mc)) rfl (by intro u hu;simp [zf4] at hu;rcases hu with rfl | rfl | rfl | rfl | rfl | rfl | rfl | rfl <;> rfl) (by unfold maxLen;omega) (by omega) hB
 refine ⟨v',w',hr,⟨ps++ [(.slice da o.d.length dc, .slice ma o.m.length mc)],by simp [h1], ?_,fun i o' p ho hp=> ?_⟩,hg⟩
 ·rw [zrf _ _ _ _ h1,List.length_append];exact Af
 ·rw [List.getElem?_append] at ho hp
  by_cases De:i < l.length
  ·rw [if_pos De] at ho;rw [if_pos (by omega)] at hp
   exact (h3 i o' p ho hp).grown h2 hg hB
  ·rw [if_neg De] at ho;rw [if_neg (by omega),h1] at hp
   rcases Nat.eq_zero_or_pos (i - l.length) with h0 | h0
   ·rw [h0] at ho hp;simp at ho hp;subst ho hp;exact hv.grown h2 hg hB
   ·rw [List.getElem?_eq_none (by simp;omega)] at ho;cases ho
theorem z7.below {w0 w w':World} {B C:Nat} {v:Value} {l:List PO} (h:z7 w B v l) (hb:Below C w0 w) (hg:w.grownBy w' v.ownBlock) (hB:C≤B) (hw:C≤w.heap.size):Below C w0 w':=by
 obtain ⟨ps,h1,h2,h3⟩:=h;exact Below.own hb h2 hg hB hw
def zlq (l:List (Int × Int)):List Value:=l.flatMap fun r=> [.int .i64 r.1, .int .i64 r.2]
theorem zrU (a b:List (Int × Int)):zlq (a++b)=zlq a++zlq b:=by simp [zlq]
theorem zr3 (l:List (Int × Int)) (i:Nat) (r:Int × Int) (h:l[i]? =some r):(zlq l)[i * 2]? =some (.int .i64 r.1)∧(zlq l)[i * 2+1]? =some (.int .i64 r.2):=by
 induction l generalizing i with
 | nil=> simp at h
 | cons x l ih=>
   cases i with
   | zero=> simp at h;subst h;exact ⟨rfl,rfl⟩
   | succ i=>
     simp only [List.getElem?_cons_succ] at h;obtain ⟨h1,h2⟩:=ih i h;have e:zlq (x::l)= [.int .i64 x.1, .int .i64 x.2]++zlq l:=rfl;rw [e,show (i+1) * 2=i * 2+2 by omega,show i * 2+2+1=(i * 2+1)+2 by omega]
     exact ⟨h1,h2⟩
def Runs (w:World) (a:Option Addr) (n:Nat) (l:List (Int × Int)):Prop:=
 l.length=n∧∀i r,l[i]? =some r→∃b o,a=some ⟨b,o,none⟩∧w.cell? ⟨b,o+i * 2,none⟩=some (.int .i64 r.1)∧w.cell? ⟨b,o+i * 2+1,none⟩=some (.int .i64 r.2)
end
end Go.Proofs.YtfldlfladcfggaaGreat
