/- Lemmas of the walks, merged and pressed by press.py. Conditions: those of each theorem. -/
import Derived.Test.YtfldlfladcfggaaGreatM16
set_option maxRecDepth 100000
set_option maxHeartbeats 64000000
set_option linter.all false
namespace Go.Proofs.YtfldlfladcfggaaGreat
section
open Go.RowKit
def zhn (k:Nat):List Value:= [.int .u16 (zj k:Int), .int .u32 (zo k:Int), .int .u64 (zp k:Int)]
theorem zeT (e:Nat):(zhn e).length=3:=rfl
theorem zjR (e:Nat):∀u ∈ zhn e,u.oneCell'=true:=fun u hu=> by
 simp [zhn] at hu;rcases hu with rfl | rfl | rfl <;> rfl
def zfg (n:Nat):List Value:= [atV n]
theorem zeQ (e:Nat):(zfg e).length=1:=rfl
theorem zjP (e:Nat):∀u ∈ zfg e,u.oneCell'=true:=fun u hu=> by
 simp [zfg] at hu;subst hu
 rfl
theorem zmA:(Tryz.prog.info? 132).map (fun i=> (i.zero,i.size,i.bytes))=some (some (.agg #[.int .u16 0, .int .u32 0, .int .u64 0]),3,16):=by kernel_rfl
theorem zmB:(Tryz.prog.info? 86).map (fun i=> (i.zero,i.size,i.bytes))=some (some (.int .u32 0),1,4):=by kernel_rfl
theorem World.alloc_size (w:World) (o:Obj):(w.alloc o).heap.size=w.heap.size+1:=by simp
theorem zM.new {α:Type} {enc:α→List Value} {k:Nat} (w:World) (x:α) (t:TypeId):zM enc k (w.alloc (.cells (enc x).toArray t)) (some ⟨w.heap.size,0,none⟩) 1 [x]:=by
 refine ⟨rfl,fun i r h=> ?_⟩;have hi:i < 1:=by simpa using (zi h).1
 have:i=0:=by omega
 subst this;simp at h;subst h;refine ⟨w.heap.size,0,rfl,fun j x hx=> ?_⟩
 show (match (w.alloc (.cells _ t)).heap[w.heap.size]? with
  | some (.cells c _ _)=> c[0+0 * k+j]?
  | _=> none)=_
 rw [heap_alloc_new]
 simpa using hx
theorem zM.alloc {α:Type} {enc:α→List Value} {k:Nat} {w:World} {a:Option Addr} {n:Nat} {l:List α} (h:zM enc k w a n l) (o:Obj):zM enc k (w.alloc o) a n l:=⟨h.1,fun i r hr=> by
 obtain ⟨b,o',e,h1⟩:=h.2 i r hr;exact ⟨b,o',e,fun j x hx=> zu (h1 j x hx) _⟩⟩
theorem zM.block {α:Type} {enc:α→List Value} {k:Nat} {w w':World} {b o n:Nat} {l:List α} (h:zM enc k w (some ⟨b,o,none⟩) n l) (hb:w'.heap[b]? =w.heap[b]?):zM enc k w' (some ⟨b,o,none⟩) n l:=
 h.same (S:=fun j=> j=b) (fun b' o' e=> by cases e;rfl) (fun j hj=> by subst hj;exact hb)
theorem zM.below {α:Type} {enc:α→List Value} {k:Nat} {w w':World} {a:Option Addr} {n:Nat} {l:List α} (h:zM enc k w a n l) {B:Nat} (hb:Below B w w') (hB:w.heap.size≤B):zM enc k w' a n l:=⟨h.1,fun i r hr=> by
 obtain ⟨b,o',e,h1⟩:=h.2 i r hr;exact ⟨b,o',e,fun j x hx=> by
  have hl:=zb _ _ (h1 j x hx);rw [hb.cell (p:=⟨b,_,none⟩) (by show b < B;have:b < w.heap.size:=hl;omega)]
  exact h1 j x hx⟩⟩
theorem zM.keys {w:World} {a:Option Addr} {n:Nat} {l:List Nat} (h:zM zhn 3 w a n l):ziq w a n l:=
 ⟨h.1,fun i r hr=> by
  obtain ⟨b,o,e,h1⟩:=h.2 i r hr;exact ⟨b,o,e,h1 0 _ rfl,h1 1 _ rfl,h1 2 _ rfl⟩⟩
theorem zM.ats {w:World} {a:Option Addr} {n:Nat} {l:List Nat} (h:zM zfg 1 w a n l):Sl w a n (l.map atV):=
 ⟨by rw [List.length_map];exact h.1,fun i r hr=> by
  rw [List.getElem?_map] at hr;obtain ⟨x,hx,rfl⟩:=Option.map_eq_some_iff.1 hr;obtain ⟨b,o,e,h1⟩:=h.2 i x hx;exact ⟨b,o,e,by have:=h1 0 (atV x) rfl;simpa using this⟩⟩
theorem zM.ptrs {w:World} {a:Option Addr} {n:Nat} {l:List Nat} (h:zM zcV 1 w a n l):Sl w a n (l.map zv):=
 ⟨by rw [List.length_map];exact h.1,fun i r hr=> by
  rw [List.getElem?_map] at hr;obtain ⟨x,hx,rfl⟩:=Option.map_eq_some_iff.1 hr;obtain ⟨b,o,e,h1⟩:=h.2 i x hx;exact ⟨b,o,e,by have:=h1 0 (zv x) rfl;simpa using this⟩⟩
structure zaS (p:Nat) (P0:Obj) (eb:Nat) (E0:Obj) (w0:World) (kv vv:Value) (ks vs:List Nat) (W:World):Prop where
 k:zK zhn 3 132 W (p+1) kv ks
 v:zK zfg 1 86 W (p+1) vv vs
 apart:∀g,kv.ownBlock=some g→vv.ownBlock≠some g
 hp:W.heap[p]? =some P0
 he:W.heap[eb]? =some E0
 ke:kv.ownBlock≠some eb
 ve:vv.ownBlock≠some eb
 below:Below p w0 W
theorem zK.lt {α:Type} {enc:α→List Value} {k:Nat} {e:TypeId} {w:World} {B:Nat} {v:Value} {l:List α} (h:zK enc k e w B v l):∀g,v.ownBlock=some g→B≤g∧g < w.heap.size:=World.ownsRow.lt h
theorem zK.alloc {α:Type} {enc:α→List Value} {k:Nat} {e:TypeId} {w:World} {B:Nat} {v:Value} {l:List α} (h:zK enc k e w B v l) (o:Obj):zK enc k e (w.alloc o) B v l:=World.ownsRow.alloc h o
theorem zK.kept {α:Type} {enc:α→List Value} {k:Nat} {e:TypeId} {w w':World} {B:Nat} {v:Value} {l:List α} (h:zK enc k e w B v l) {row:Option Nat} (hg:w.grownBy w' row) (Aj:v.ownBlock=none∨v.ownBlock≠row):zK enc k e w' B v l:=World.ownsRow.kept h hg Aj
theorem zK.form {α:Type} {enc:α→List Value} {k:Nat} {e:TypeId} {w:World} {B:Nat} {v:Value} {l:List α} (h:zK enc k e w B v l):∃a n c,v= .slice a n c:=by
 rcases h.2 with ⟨h1,-⟩ | ⟨g,cap,cur,h1,-⟩
 ·exact ⟨_,_,_,h1⟩
 ·exact ⟨_,_,_,h1⟩
section
variable {p eb:Nat} {P0 E0:Obj} {w0:World} {kv vv:Value} {ks vs:List Nat} {W:World}
theorem zaS.lt (m:zaS p P0 eb E0 w0 kv vv ks vs W):p < W.heap.size∧eb < W.heap.size:=⟨(zg m.hp).1,(zg m.he).1⟩
theorem zaS.alloc (m:zaS p P0 eb E0 w0 kv vv ks vs W) (o:Obj):zaS p P0 eb E0 w0 kv vv ks vs (W.alloc o):=
 ⟨m.k.alloc o,m.v.alloc o,m.apart,by rw [Below.heap_alloc _ _ _ m.lt.1];exact m.hp,by rw [Below.heap_alloc _ _ _ m.lt.2];exact m.he,m.ke,m.ve,m.below.alloc (by have:=m.lt.1;omega) o⟩
theorem zaS.drew (m:zaS p P0 eb E0 w0 kv vv ks vs W):zaS p P0 eb E0 w0 kv vv ks vs W.drew:=⟨m.k,m.v,m.apart,m.hp,m.he,m.ke,m.ve,m.below.drew⟩
theorem zaS.appK (m:zaS p P0 eb E0 w0 kv vv ks vs W) {b k:Nat} (hs:zM zhn 3 W (some ⟨b,0,none⟩) 1 [k]) (hl:ks.length≤100000000):
 ∃v' w',(∀ty,(Builtin.append_ #[249,249] ty #[kv, .slice (some ⟨b,0,none⟩) 1 1]).run Tryz.prog W= .ok v' w')∧zaS p P0 eb E0 w0 v' vv (ks++ [k]) vs w'∧W.grownBy w' kv.ownBlock:=by
 obtain ⟨i0,hi,AG,Ai,Ax⟩:=zW zmA;obtain ⟨v',w',hr,ho,hg,-,AF⟩:=run_append_own_at (P:=Tryz.prog) W (p+1) 249 249 132 i0 _ 3 16 Tryz.underlying249 hi AG Ai Ax rfl (by decide) kv ks.length _ m.k ⟨b,0,none⟩ 1 1 (zB zhn [k]) rfl (zM.cells zeT (by decide) hs) (fun u hu=> by
  obtain ⟨x,-,hx⟩:=List.mem_flatMap.1 hu;exact zjR x u hx) (by unfold maxLen;omega) (by omega) (by have:=m.lt.1;omega)
 have hlt:=m.lt;have Du:=m.k.lt;have FL:=m.v.lt;refine ⟨v',w',fun ty=> hr,⟨?_,m.v.kept hg ?_, ?_, ?_, ?_, ?_,m.ve,m.below.grown hg (by omega) (fun j hj=> by have:=(Du j hj).1;omega)⟩,hg⟩
 ·unfold zK;rw [zaj,List.length_append];exact ho
 ·cases K9:vv.ownBlock with
  | none=> exact .inl rfl
  | some g=> exact .inr fun e=> m.apart g e.symm K9
 ·intro g Cf Cy;rcases AF with h | h
  ·exact m.apart g (h.symm.trans Cf) Cy
  ·rw [h] at Cf
   cases Cf
   have:=(FL _ Cy).2
   omega
 ·rw [hg.block p hlt.1 (fun e=> by have:=(Du p e.symm).1;omega)];exact m.hp
 ·rw [hg.block eb hlt.2 (fun e=> m.ke e.symm)];exact m.he
 ·intro e;rcases AF with h | h
  ·exact m.ke (h.symm.trans e)
  ·rw [h] at e
   cases e
   omega
theorem zaS.appV (m:zaS p P0 eb E0 w0 kv vv ks vs W) {b k:Nat} (hs:zM zfg 1 W (some ⟨b,0,none⟩) 1 [k]) (hl:vs.length≤100000000):
 ∃v' w',(∀ty,(Builtin.append_ #[115,115] ty #[vv, .slice (some ⟨b,0,none⟩) 1 1]).run Tryz.prog W= .ok v' w')∧zaS p P0 eb E0 w0 kv v' ks (vs++ [k]) w'∧W.grownBy w' vv.ownBlock:=by
 obtain ⟨i0,hi,AG,Ai,Ax⟩:=zW zmB;obtain ⟨v',w',hr,ho,hg,-,AF⟩:=run_append_own_at (P:=Tryz.prog) W (p+1) 115 115 86 i0 _ 1 4 Tryz.underlying115 hi AG Ai Ax rfl (by decide) vv vs.length _ m.v ⟨b,0,none⟩ 1 1 (zB zfg [k]) rfl (zM.cells zeQ (by decide) hs) (fun u hu=> by
  obtain ⟨x,-,hx⟩:=List.mem_flatMap.1 hu;exact zjP x u hx) (by unfold maxLen;omega) (by omega) (by have:=m.lt.1;omega)
 have hlt:=m.lt;have Du:=m.k.lt;have FL:=m.v.lt;refine ⟨v',w',fun ty=> hr,⟨m.k.kept hg ?_, ?_, ?_, ?_, ?_,m.ke, ?_,m.below.grown hg (by omega) (fun j hj=> by have:=(FL j hj).1;omega)⟩,hg⟩
 ·cases K9:kv.ownBlock with
  | none=> exact .inl rfl
  | some g=> exact .inr fun e=> m.apart g K9 e.symm
 ·unfold zK;rw [zaj,List.length_append];exact ho
 ·intro g Cf Cy;rcases AF with h | h
  ·exact m.apart g Cf (h.symm.trans Cy)
  ·rw [h] at Cy
   cases Cy
   have:=(Du _ Cf).2
   omega
 ·rw [hg.block p hlt.1 (fun e=> by have:=(FL p e.symm).1;omega)];exact m.hp
 ·rw [hg.block eb hlt.2 (fun e=> m.ve e.symm)];exact m.he
 ·intro e;rcases AF with h | h
  ·exact m.ve (h.symm.trans e)
  ·rw [h] at e
   cases e
   omega
theorem zfF {ops:Array Oper} {o:Oper} {a:Act} {K:Act→World→Prop} {Q:Exit→Act→World→Prop} {E:Prop} {v:Value} (hg:o.guard=none) (d x:Operand) (GL:o.op=Op.call {callee:=Callee.builtin Builtin.append,args:=#[d,x],argTypes:=#[249,249]})
 {b k:Nat} (hd:a.eval d=v) (hx:a.eval x= .slice (some ⟨b,0,none⟩) 1 1) (m:zaS p P0 eb E0 w0 v vv ks vs W) (hs:zM zhn 3 W (some ⟨b,0,none⟩) 1 [k]) (hl:ks.length≤100000000)
 (h:∀v' w',zaS p P0 eb E0 w0 v' vv (ks++ [k]) vs w'→W.grownBy w' v.ownBlock→K (a.put o.dst v') w'):
 if Region.wanted o (yielded ops a.tmps)=true then Oper.wp Tryz.prog o a W K Q else E:=by
 obtain ⟨v',w',hr,m',IB⟩:=m.appK hs hl;exact zL hg d x _ _ GL _ _ hd hx (hr _) (h v' w' m' IB)
theorem znn {ops:Array Oper} {o:Oper} {a:Act} {K:Act→World→Prop} {Q:Exit→Act→World→Prop} {E:Prop} {v:Value} (hg:o.guard=none) (d x:Operand) (GL:o.op=Op.call {callee:=Callee.builtin Builtin.append,args:=#[d,x],argTypes:=#[115,115]})
 {b k:Nat} (hd:a.eval d=v) (hx:a.eval x= .slice (some ⟨b,0,none⟩) 1 1) (m:zaS p P0 eb E0 w0 kv v ks vs W) (hs:zM zfg 1 W (some ⟨b,0,none⟩) 1 [k]) (hl:vs.length≤100000000)
 (h:∀v' w',zaS p P0 eb E0 w0 kv v' ks (vs++ [k]) w'→W.grownBy w' v.ownBlock→K (a.put o.dst v') w'):
 if Region.wanted o (yielded ops a.tmps)=true then Oper.wp Tryz.prog o a W K Q else E:=by
 obtain ⟨v',w',hr,m',IB⟩:=m.appV hs hl;exact zL hg d x _ _ GL _ _ hd hx (hr _) (h v' w' m' IB)
theorem zM.apartG {α:Type} {enc:α→List Value} {k:Nat} {w w':World} {row:Option Nat} {b o n:Nat} {l:List α} (h:zM enc k w (some ⟨b,o,none⟩) n l) (hg:w.grownBy w' row) (hb:b < w.heap.size) (Aj:some b≠row):zM enc k w' (some ⟨b,o,none⟩) n l:=
 h.block (hg.block b hb Aj)
end
theorem zaS.to {p eb:Nat} {E0:Obj} {kv' vv':Value} {w0:World} {kv vv:Value} {ks vs:List Nat} {W:World} (m:zaS p (.cells #[.bool true,kv',vv', .slice none 0 0, .int .u32 0] 251) eb E0 w0 kv vv ks vs W) (x y:Value):
 zaS p (.cells #[.bool true,x,y, .slice none 0 0, .int .u32 0] 251) p (.cells #[.bool true,x,y, .slice none 0 0, .int .u32 0] 251) w0 kv vv ks vs ((W.setCell ⟨p,1,none⟩ x).setCell ⟨p,2,none⟩ y):=by
 have h1:=heap_setCell_same _ p 2 _ _ y (heap_setCell_same W p 1 _ _ x m.hp);have AR:((W.setCell ⟨p,1,none⟩ x).setCell ⟨p,2,none⟩ y).heap.size=W.heap.size:=by simp
 have hg:W.grownBy ((W.setCell ⟨p,1,none⟩ x).setCell ⟨p,2,none⟩ y) (some p):=⟨rfl,rfl,rfl,by rw [AR];exact zl,fun j hj Aj=> by
  rw [heap_setCell_other _ _ j _ (fun e=> Aj (by rw [e])),heap_setCell_other _ _ j _ (fun e=> Aj (by rw [e]))]⟩
 have Du:=m.k.lt;have FL:=m.v.lt;have FV:kv.ownBlock≠some p:=fun e=> by have:=(Du p e).1;omega
 have Lb:vv.ownBlock≠some p:=fun e=> by have:=(FL p e).1;omega
 refine ⟨m.k.kept hg (.inr FV),m.v.kept hg (.inr Lb),m.apart, ?_, ?_,FV,Lb,m.below.grown hg (by have:=m.lt.1;omega) (fun j hj=> by cases hj;exact zl)⟩
 ·exact h1
 ·exact h1
theorem zaS.node {p eb:Nat} {x y:Value} {E0:Obj} {w0:World} {kv vv:Value} {ks vs:List Nat} {W:World} (m:zaS p (.cells #[.bool true,x,y, .slice none 0 0, .int .u32 0] 251) eb E0 w0 kv vv ks vs W):
 W.cell? ⟨p,1,none⟩=some x∧W.cell? ⟨p,2,none⟩=some y∧W.frozen? ⟨p,1,none⟩=false∧W.frozen? ⟨p,2,none⟩=false:=by
 have h1:=m.hp;refine ⟨?_, ?_, ?_, ?_⟩ <;> simp [World.cell?,World.frozen?,h1]
theorem zaS.reads {p eb:Nat} {x y a b c d:Value} {t:TypeId} {w0:World} {kv vv:Value} {ks vs:List Nat} {W:World} (m:zaS p (.cells #[.bool true,x,y, .slice none 0 0, .int .u32 0] 251) eb (.cells #[a,b,c,d] t) w0 kv vv ks vs W):
 W.cell? ⟨eb,0,none⟩=some a∧W.cell? ⟨eb,1,none⟩=some b∧W.cell? ⟨eb,2,none⟩=some c∧W.cell? ⟨eb,3,none⟩=some d:=by
 have h2:=m.he;refine ⟨?_, ?_, ?_, ?_⟩ <;> simp [World.cell?,h2]
def zhZ (eb:Nat) (a b c d:Value) (W:World):Prop:=W.cell? ⟨eb,0,none⟩=some a∧W.cell? ⟨eb,1,none⟩=some b∧W.cell? ⟨eb,2,none⟩=some c∧W.cell? ⟨eb,3,none⟩=some d
def zmO (p:Nat) (x y:Value) (W:World):Prop:=W.cell? ⟨p,1,none⟩=some x∧W.cell? ⟨p,2,none⟩=some y
theorem zaS.late {p eb:Nat} {x y a b c d:Value} {t:TypeId} {w0:World} {kv vv:Value} {ks vs:List Nat} {W:World} (m:zaS p (.cells #[.bool true,x,y, .slice none 0 0, .int .u32 0] 251) eb (.cells #[a,b,c,d] t) w0 kv vv ks vs W):zhZ eb a b c d W∧zmO p x y W:=⟨m.reads,m.node.1,m.node.2.1⟩
theorem zaS.lateH {late:List Nat} {j p eb:Nat} {x y a b c d:Value} {t:TypeId} {w0:World} {kv vv:Value} {ks vs:List Nat} {W:World} (m:zaS p (.cells #[.bool true,x,y, .slice none 0 0, .int .u32 0] 251) eb (.cells #[a,b,c,d] t) w0 kv vv ks vs W):zeM late (zhZ eb a b c d) (zmO p x y) j W:=⟨m.late.1,fun _=> m.late.2⟩
theorem za3 (W:World) (a b:Addr) (v:Value) (h:b.block≠a.block):(W.setCell a v).cell? b=W.cell? b:=by
 simp only [World.cell?];rw [heap_setCell_other W a _ _ h]
theorem zjU {W:World} {p eb i:Nat} {x a b c d:Value} (Aj:eb≠p) (h:W.cell? ⟨eb,0,none⟩=some a∧W.cell? ⟨eb,1,none⟩=some b∧W.cell? ⟨eb,2,none⟩=some c∧W.cell? ⟨eb,3,none⟩=some d):
 (W.setCell ⟨p,i,none⟩ x).cell? ⟨eb,0,none⟩=some a∧(W.setCell ⟨p,i,none⟩ x).cell? ⟨eb,1,none⟩=some b∧(W.setCell ⟨p,i,none⟩ x).cell? ⟨eb,2,none⟩=some c∧(W.setCell ⟨p,i,none⟩ x).cell? ⟨eb,3,none⟩=some d:=
 ⟨(za3 W _ _ _ Aj).trans h.1,(za3 W _ _ _ Aj).trans h.2.1,(za3 W _ _ _ Aj).trans h.2.2.1,(za3 W _ _ _ Aj).trans h.2.2.2⟩
def zcd (kv vv:Value):Obj:= .cells #[.bool true,kv,vv, .slice none 0 0, .int .u32 0] 251
theorem zld {p eb:Nat} {E0:Obj} {w0 w:World} {kv vv:Value} {es:List En} (m:zaS p (zcd kv vv) eb E0 w0 kv vv (es.map (·.1)) (es.map (·.2)) w) (S:Nat→Prop) (hS:∀j,p≤j→j < w.heap.size→S j):zQ w S p (zbM es):=by
 obtain ⟨ka,kc,rfl,hk,-,-⟩:=m.k.row zeT;obtain ⟨va,vc,rfl,hv,-,-⟩:=m.v.row zeQ;simp only [List.length_map] at hk hv;have hlt:=m.lt.1;refine ⟨ka,kc,va,vc,⟨⟨.int .u32 0, ?_⟩,hS p zl hlt,fun b o e=> ?_,fun b o e=> ?_,fun b o e=> by cases e⟩,hk.keys, ?_⟩
 ·have:=m.hp;unfold zcd at this;simp only [List.length_map] at this;exact this
 ·subst e
  cases o with
  | zero=>
    have:=m.k.lt b rfl;exact hS b (by omega) this.2
  | succ o=> exact absurd m.k (by
        intro h;rcases h.2 with ⟨h1,-⟩ | ⟨g,cap,cur,h1,-⟩
        ·cases h1
        ·cases h1)
 ·subst e
  cases o with
  | zero=>
    have:=m.v.lt b rfl;exact hS b (by omega) this.2
  | succ o=> exact absurd m.v (by
        intro h;rcases h.2 with ⟨h1,-⟩ | ⟨g,cap,cur,h1,-⟩
        ·cases h1
        ·cases h1)
 ·have:=hv.ats;rw [List.map_map] at this;exact this
end
section
open Go.RowKit
theorem zeW {w:World} {a:Option Addr} {n c:Nat} {es:List En} (h:zM zaW 4 w a n es) (hn:n≤1000):
 Calls Tryz.prog 145 #[.slice a n c] w fun r w'=> ∃p,r= .returned (zv p)∧zQ w' (fun j=> w.heap.size≤j∧j < w'.heap.size) p (zbM es)∧Below w.heap.size w w':=by
 have Ac:=h.1;have HH:=zh h;clear h;have YR:(w.alloc (zcd (.slice none 0 0) (.slice none 0 0))).heap[w.heap.size]? =some (zcd (.slice none 0 0) (.slice none 0 0)):=heap_alloc_new w _;have m0:zaS w.heap.size (zcd (.slice none 0 0) (.slice none 0 0)) w.heap.size (zcd (.slice none 0 0) (.slice none 0 0)) w (.slice none 0 0) (.slice none 0 0) [] [] (w.alloc (zcd (.slice none 0 0) (.slice none 0 0))):=
  ⟨World.ownsRow_nil _ _ _ _,World.ownsRow_nil _ _ _ _,(fun g e=> by cases e),YR,YR,(fun e=> by cases e),(fun e=> by cases e),zr.alloc zl _⟩
 have M9:=zh m0;unfold zcd at M9;clear m0 YR;unfold zv;go_enter Tryz.func145,Tryz.ntmps145;go_wp2_with fail;generalize w.alloc (.cells #[.bool true, .slice none 0 0, .slice none 0 0, .slice none 0 0, .int .u32 0] 251)=w0 at *;generalize hB:w.heap.size=B at *
 go_loopw [10] (fun u10 wr=> ∃i:Nat,∃kv vv:Value,i≤n∧u10= .int .i64 i∧zaS B (zcd kv vv) B (zcd kv vv) w kv vv ((es.take i).map (·.1)) ((es.take i).map (·.2)) wr) (fun u10 _=> n - (intOf u10).toNat)
 case atStart=> exact ⟨0, .slice none 0 0, .slice none 0 0,by omega,rfl,M9.out⟩
 case round=>
  obtain ⟨i,kv,vv,hi,rfl,m⟩:=hrel;obtain ⟨ka0,kn0,kc0,rfl⟩:=m.k.form;obtain ⟨va0,vn0,vc0,rfl⟩:=m.v.form
  by_cases hlt:i < n
  ·have Bb:(i:Int) < (n:Int):=by omega
   obtain ⟨e,he⟩:∃e,es[i]? =some e:=⟨_,ze (by omega)⟩
   have Ah:=HH.out.below m.below (by omega)
   obtain ⟨b,o,rfl,hc⟩:=Ah.2 i e he;have c0:=hc 0 _ rfl;have c1:=hc 1 _ rfl;have c2:=hc 2 _ rfl;have c3:=hc 3 _ rfl;simp only [Nat.add_zero] at c0;have Gi:es.take (i+1)=es.take i++ [e]:=by rw [List.take_add_one,he];rfl
   have WJ:=zh Gi;have Du:((es.take i).map (·.1)).length≤100000000:=by rw [List.length_map,List.length_take];omega
   have MF:((es.take i).map (·.2)).length≤100000000:=by rw [List.length_map,List.length_take];omega
   have m1:zaS B (.cells #[.bool true, .slice ka0 kn0 kc0, .slice va0 vn0 vc0, .slice none 0 0, .int .u32 0] 251) wr.heap.size (.cells #[.int .u16 (zj e.1:Int), .int .u32 (zo e.1:Int), .int .u64 (zp e.1:Int), .int .u32 (e.2:Int)] 141) w (.slice ka0 kn0 kc0) (.slice va0 vn0 vc0) ((es.take i).map (·.1)) ((es.take i).map (·.2)) (wr.alloc (.cells #[.int .u16 (zj e.1:Int), .int .u32 (zo e.1:Int), .int .u64 (zp e.1:Int), .int .u32 (e.2:Int)] 141)):=by
        have m2:=m.alloc (.cells #[.int .u16 (zj e.1:Int), .int .u32 (zo e.1:Int), .int .u64 (zp e.1:Int), .int .u32 (e.2:Int)] 141);exact ⟨m2.k,m2.v,m2.apart,m2.hp,heap_alloc_new wr _,fun h=> by have:=(m.k.lt _ h).2;omega,fun h=> by have:=(m.v.lt _ h).2;omega,m2.below⟩
   have VR:=zh m.lt.1;clear Gi m hc Ah Ac he;go_wp2_with fail;clear c0 c1 c2 c3;generalize wr.alloc (.cells #[.int .u16 (zj e.1:Int), .int .u32 (zo e.1:Int), .int .u64 (zp e.1:Int), .int .u32 (e.2:Int)] 141)=wx at *;have vQ:B < wr.heap.size:=VR.out;generalize wr.heap.size=eb at *;have TE:eb≠B:=by omega
   have BO:=zh (fun g (h:(Value.slice ka0 kn0 kc0).ownBlock=some g)=> (m1.k.lt g h).2);have M1:=zh m1;have Av:=m1.drew.late;clear m1 vQ;refine zy (by kernel_rfl) [1,20,21,22,23] (zhZ eb (.int .u16 (zj e.1:Int)) (.int .u32 (zo e.1:Int)) (.int .u64 (zp e.1:Int)) (.int .u32 (e.2:Int))) (zmO B (.slice ka0 kn0 kc0) (.slice va0 vn0 vc0)) ?_
   refine zdd 1 (some 15) (v:= ?_) rfl rfl (by decide) (by kernel_rfl) (fun _ _ _ h=> h) Av.1 (Or.inl ⟨by rfl, ?_⟩) ?_
   rotate_left
   ·(intro w' Cn;clear Cn;go_simp;try with_reducible rfl)
   try simp only [Act.put,List.setIfInBounds_toArray,List.set_cons_zero,List.set_cons_succ]
   refine zaa 0 (some 14) (v:= ?_) rfl rfl (by decide) (by kernel_rfl) (fun _ _ _ h=> h) Av (Or.inl ⟨by rfl, ?_⟩) ?_
   rotate_left
   ·(intro w' Cn;clear Cn;go_simp;try with_reducible rfl)
   try simp only [Act.put,List.setIfInBounds_toArray,List.set_cons_zero,List.set_cons_succ]
   refine zaa 2 (some 16) (v:= ?_) rfl rfl (by decide) (by kernel_rfl) (fun _ _ _ h=> h) Av (Or.inl ⟨by rfl, ?_⟩) ?_
   rotate_left
   ·(intro w' Cn;clear Cn;go_simp;try with_reducible rfl)
   try simp only [Act.put,List.setIfInBounds_toArray,List.set_cons_zero,List.set_cons_succ]
   refine zaa 3 (some 17) (v:= ?_) rfl rfl (by decide) (by kernel_rfl) (fun _ _ _ h=> h) Av (Or.inl ⟨by rfl, ?_⟩) ?_
   rotate_left
   ·(intro w' Cn;clear Cn;go_simp;try with_reducible rfl)
   try simp only [Act.put,List.setIfInBounds_toArray,List.set_cons_zero,List.set_cons_succ]
   refine zaa 4 (some 18) (v:= ?_) rfl rfl (by decide) (by kernel_rfl) (fun _ _ _ h=> h) Av (Or.inl ⟨by rfl, ?_⟩) ?_
   rotate_left
   ·(intro w' Cn;clear Cn;go_simp;try with_reducible rfl)
   try simp only [Act.put,List.setIfInBounds_toArray,List.set_cons_zero,List.set_cons_succ]
   refine zaa 5 (some 19) (v:= ?_) rfl rfl (by decide) (by kernel_rfl) (fun _ _ _ h=> h) Av (Or.inl ⟨by rfl, ?_⟩) ?_
   rotate_left
   ·(intro w' Cn;obtain ⟨⟨q0,q1,q2,q3⟩,z1,z2⟩:=Cn;go_simp;try with_reducible rfl)
   try simp only [Act.put,List.setIfInBounds_toArray,List.set_cons_zero,List.set_cons_succ]
   refine zaa 6 (some 20) (v:= ?_) rfl rfl (by decide) (by kernel_rfl) (fun _ _ _ h=> h) Av (Or.inl ⟨by rfl, ?_⟩) ?_
   rotate_left
   ·(intro w' Cn;clear Cn;go_simp;try with_reducible rfl)
   try simp only [Act.put,List.setIfInBounds_toArray,List.set_cons_zero,List.set_cons_succ]
   refine zaa 7 (some 21) (v:= ?_) rfl rfl (by decide) (by kernel_rfl) (fun _ _ _ h=> h) Av (Or.inl ⟨by rfl, ?_⟩) ?_
   rotate_left
   ·(intro w' Cn;obtain ⟨⟨q0,q1,q2,q3⟩,z1,z2⟩:=Cn;go_simp;try with_reducible rfl)
   try simp only [Act.put,List.setIfInBounds_toArray,List.set_cons_zero,List.set_cons_succ]
   refine zaa 10 (some 24) (v:= ?_) rfl rfl (by decide) (by kernel_rfl) (fun _ _ _ h=> h) Av (Or.inl ⟨by rfl, ?_⟩) ?_
   rotate_left
   ·(intro w' Cn;clear Cn;go_simp;try with_reducible rfl)
   try simp only [Act.put,List.setIfInBounds_toArray,List.set_cons_zero,List.set_cons_succ]
   refine zaa 11 (some 25) (v:= ?_) rfl rfl (by decide) (by kernel_rfl) (fun _ _ _ h=> h) Av (Or.inl ⟨by rfl, ?_⟩) ?_
   rotate_left
   ·(intro w' Cn;clear Cn;go_simp;try with_reducible rfl)
   try simp only [Act.put,List.setIfInBounds_toArray,List.set_cons_zero,List.set_cons_succ]
   refine zaa 12 (some 26) (v:= ?_) rfl rfl (by decide) (by kernel_rfl) (fun _ _ _ h=> h) Av (Or.inl ⟨by rfl, ?_⟩) ?_
   rotate_left
   ·(intro w' Cn;clear Cn;go_simp;try with_reducible rfl)
   try simp only [Act.put,List.setIfInBounds_toArray,List.set_cons_zero,List.set_cons_succ]
   refine zaa 13 (some 27) (v:= ?_) rfl rfl (by decide) (by kernel_rfl) (fun _ _ _ h=> h) Av (Or.inl ⟨by rfl, ?_⟩) ?_
   rotate_left
   ·(intro w' Cn;obtain ⟨⟨q0,q1,q2,q3⟩,z1,z2⟩:=Cn;go_simp;try with_reducible rfl)
   try simp only [Act.put,List.setIfInBounds_toArray,List.set_cons_zero,List.set_cons_succ]
   refine zaa 14 (some 28) (v:= ?_) rfl rfl (by decide) (by kernel_rfl) (fun _ _ _ h=> h) Av (Or.inl ⟨by rfl, ?_⟩) ?_
   rotate_left
   ·(intro w' Cn;clear Cn;go_simp;try with_reducible rfl)
   try simp only [Act.put,List.setIfInBounds_toArray,List.set_cons_zero,List.set_cons_succ]
   refine zaa 15 (some 29) (v:= ?_) rfl rfl (by decide) (by kernel_rfl) (fun _ _ _ h=> h) Av (Or.inl ⟨by rfl, ?_⟩) ?_
   rotate_left
   ·(intro w' Cn;obtain ⟨⟨q0,q1,q2,q3⟩,z1,z2⟩:=Cn;go_simp;try with_reducible rfl)
   try simp only [Act.put,List.setIfInBounds_toArray,List.set_cons_zero,List.set_cons_succ]
   refine zbq (i:=8) (i':=16) (by kernel_rfl) rfl rfl (fun K hK=> ?A) (fun K hK=> ?B)
   case' A=>
        go_simp;have m1:=(M1.out.alloc (.cells #[.int .u16 (zj e.1:Int), .int .u32 (zo e.1:Int), .int .u64 (zp e.1:Int)] 132)).drew;have p1:zM zhn 3 (wx.alloc (.cells #[.int .u16 (zj e.1:Int), .int .u32 (zo e.1:Int), .int .u64 (zp e.1:Int)] 132)).drew (some ⟨wx.heap.size,0,none⟩) 1 [e.1]:=zM.new (enc:=zhn) wx e.1 132;have C6:wx.heap.size < (wx.alloc (.cells #[.int .u16 (zj e.1:Int), .int .u32 (zo e.1:Int), .int .u64 (zp e.1:Int)] 132)).drew.heap.size:=by (show wx.heap.size < (World.alloc _ _).heap.size;rw [World.alloc_size];omega)
        refine hK.out _ _ m1.lateH ?_;clear hK K Av;generalize (wx.alloc (.cells #[.int .u16 (zj e.1:Int), .int .u32 (zo e.1:Int), .int .u64 (zp e.1:Int)] 132)).drew=W1 at *;have ED:=fun g h=> BO.out g h;generalize wx.heap.size=kb at *;refine zbq (i:=9) (i':=16) (by kernel_rfl) rfl rfl (fun K hK=> ?A1) (fun K hK=> ?A2)
   case' A1=>
        refine zfF (v:= .slice ka0 kn0 kc0) (o:=⟨some 23,_,_,_,_,_⟩) rfl _ _ rfl rfl rfl m1 p1 Du ?_;intro kv1 W2 m2 Cf;obtain ⟨ka1,kn1,kc1,rfl⟩:=m2.k.form
        try simp only [Act.put,List.setIfInBounds_toArray,List.set_cons_zero,List.set_cons_succ]
        have m3:=m2.alloc (.cells #[.int .u32 (e.2:Int)] 86);have q3:zM zfg 1 (W2.alloc (.cells #[.int .u32 (e.2:Int)] 86)) (some ⟨W2.heap.size,0,none⟩) 1 [e.2]:=zM.new (enc:=zfg) W2 e.2 86;refine hK.out _ _ m2.lateH ?_;clear hK K;refine zd (i:=16) (by kernel_rfl) rfl (fun K hK=> ?_)
        go_simp;refine hK.out _ _ m3.lateH ?_;clear hK K m1 p1 C6 m2 Cf;generalize W2.alloc (.cells #[.int .u32 (e.2:Int)] 86)=W3 at *;generalize W2.heap.size=ub at *
   case' A2=>
        go_simp;have m0:=m1.alloc (.cells #[.int .u32 (e.2:Int)] 86);have p2:=p1.alloc (.cells #[.int .u32 (e.2:Int)] 86);have q2:zM zfg 1 (W1.alloc (.cells #[.int .u32 (e.2:Int)] 86)) (some ⟨W1.heap.size,0,none⟩) 1 [e.2]:=zM.new (enc:=zfg) W1 e.2 86;have GP:W1.heap.size < (W1.alloc (.cells #[.int .u32 (e.2:Int)] 86)).heap.size:=by (rw [World.alloc_size];omega)
        have qj:∀g,(Value.slice ka0 kn0 kc0).ownBlock=some g→g < W1.heap.size:=fun g h=> (m1.k.lt g h).2;refine hK.out _ _ m0.lateH ?_;clear hK K;generalize W1.alloc (.cells #[.int .u32 (e.2:Int)] 86)=W0 at *;generalize W1.heap.size=ub at *;refine zd (i:=9) (by kernel_rfl) rfl (fun K hK=> ?_)
        refine zfF (v:= .slice ka0 kn0 kc0) (o:=⟨some 23,_,_,_,_,_⟩) rfl _ _ rfl rfl rfl m0 p2 Du ?_;intro kv1 W2 m2 Cf;obtain ⟨ka1,kn1,kc1,rfl⟩:=m2.k.form
        try simp only [Act.put,List.setIfInBounds_toArray,List.set_cons_zero,List.set_cons_succ]
        have q3:=q2.apartG Cf GP (fun h=> by have:=qj _ h.symm;omega)
        have m3:=m2;refine hK.out _ _ m2.lateH ?_;clear hK K m1 p1 C6 m2 m0 p2 q2 GP qj Cf;generalize W2=W3 at *
   case' B=>
        go_simp;have m1:=(M1.out.alloc (.cells #[.int .u32 (e.2:Int)] 86)).drew;have q1:zM zfg 1 (wx.alloc (.cells #[.int .u32 (e.2:Int)] 86)).drew (some ⟨wx.heap.size,0,none⟩) 1 [e.2]:=zM.new (enc:=zfg) wx e.2 86;have C6:wx.heap.size < (wx.alloc (.cells #[.int .u32 (e.2:Int)] 86)).drew.heap.size:=by (show wx.heap.size < (World.alloc _ _).heap.size;rw [World.alloc_size];omega)
        refine hK.out _ _ m1.lateH ?_;clear hK K Av;generalize (wx.alloc (.cells #[.int .u32 (e.2:Int)] 86)).drew=W1 at *;have ED:=fun g h=> BO.out g h;generalize wx.heap.size=ub at *;refine zd (i:=8) (by kernel_rfl) rfl (fun K hK=> ?_)
        go_simp;have m0:=m1.alloc (.cells #[.int .u16 (zj e.1:Int), .int .u32 (zo e.1:Int), .int .u64 (zp e.1:Int)] 132);have q2:=q1.alloc (.cells #[.int .u16 (zj e.1:Int), .int .u32 (zo e.1:Int), .int .u64 (zp e.1:Int)] 132);have p2:zM zhn 3 (W1.alloc (.cells #[.int .u16 (zj e.1:Int), .int .u32 (zo e.1:Int), .int .u64 (zp e.1:Int)] 132)) (some ⟨W1.heap.size,0,none⟩) 1 [e.1]:=zM.new (enc:=zhn) W1 e.1 132;have GP:ub < (W1.alloc (.cells #[.int .u16 (zj e.1:Int), .int .u32 (zo e.1:Int), .int .u64 (zp e.1:Int)] 132)).heap.size:=by (rw [World.alloc_size];omega)
        refine hK.out _ _ m0.lateH ?_;clear hK K;generalize W1.alloc (.cells #[.int .u16 (zj e.1:Int), .int .u32 (zo e.1:Int), .int .u64 (zp e.1:Int)] 132)=W0 at *;generalize W1.heap.size=kb at *;refine zd (i:=9) (by kernel_rfl) rfl (fun K hK=> ?_)
        refine zfF (v:= .slice ka0 kn0 kc0) (o:=⟨some 23,_,_,_,_,_⟩) rfl _ _ rfl rfl rfl m0 p2 Du ?_;intro kv1 W2 m2 Cf;obtain ⟨ka1,kn1,kc1,rfl⟩:=m2.k.form
        try simp only [Act.put,List.setIfInBounds_toArray,List.set_cons_zero,List.set_cons_succ]
        have q3:=q2.apartG Cf GP (fun h=> by have:=ED _ h.symm;omega)
        have m3:=m2;refine hK.out _ _ m2.lateH ?_;clear hK K m1 q1 C6 m2 m0 p2 q2 GP Cf;generalize W2=W3 at *
   all_goals
        clear ED M1 BO;refine zd (i:=17) (by kernel_rfl) rfl (fun K hK=> ?_)
        refine znn (v:= .slice va0 vn0 vc0) (o:=⟨some 31,_,_,_,_,_⟩) rfl _ _ rfl rfl rfl m3 q3 MF ?_;intro vv1 W4 m4 Cy;obtain ⟨va1,vn1,vc1,rfl⟩:=m4.v.form
        try simp only [Act.put,List.setIfInBounds_toArray,List.set_cons_zero,List.set_cons_succ]
        refine hK.out _ _ m4.lateH ?_;clear hK K m3 q3 Cy;have Av:=m4.late;refine zaa 18 (some 32) (v:= ?_) rfl rfl (by decide) (by kernel_rfl) (fun _ _ _ h=> h) Av (Or.inl ⟨by rfl, ?_⟩) ?_
        rotate_left
        ·(intro w' Cn;clear Cn;go_simp;try with_reducible rfl)
        try simp only [Act.put,List.setIfInBounds_toArray,List.set_cons_zero,List.set_cons_succ]
        refine zaa 19 (some 33) (v:= ?_) rfl rfl (by decide) (by kernel_rfl) (fun _ _ _ h=> h) Av (Or.inl ⟨by rfl, ?_⟩) ?_
        rotate_left
        ·(intro w' Cn;clear Cn;go_simp;try with_reducible rfl)
        try simp only [Act.put,List.setIfInBounds_toArray,List.set_cons_zero,List.set_cons_succ]
        obtain ⟨y1,y2,y3,y4⟩:=m4.node;have GQ:=zjU (p:=B) (i:=1) (x:= .slice ka1 kn1 kc1) TE Av.1;have NZ:=zjU (p:=B) (i:=2) (x:= .slice va1 vn1 vc1) TE GQ;have Az:zhZ eb _ _ _ _ _:=GQ;have B9:zhZ eb _ _ _ _ _:=NZ;clear GQ NZ Av;refine zd (i:=20) (by kernel_rfl) rfl (fun K hK=> ?_)
        go_simp;refine hK.out _ _ ⟨Az,fun h=> absurd h (by decide)⟩ ?_
        clear hK K;have Av:=zn Az True.intro;refine zdd 21 (some 34) (v:= ?_) rfl rfl (by decide) (by kernel_rfl) (fun _ _ _ h=> h) Av.1 (Or.inl ⟨by rfl, ?_⟩) ?_
        rotate_left
        ·(intro w' Cn;clear Cn;go_simp;try with_reducible rfl)
        try simp only [Act.put,List.setIfInBounds_toArray,List.set_cons_zero,List.set_cons_succ]
        refine zdd 22 (some 35) (v:= ?_) rfl rfl (by decide) (by kernel_rfl) (fun _ _ _ h=> h) Av.1 (Or.inl ⟨by rfl, ?_⟩) ?_
        rotate_left
        ·(intro w' Cn;clear Cn;go_simp;try with_reducible rfl)
        try simp only [Act.put,List.setIfInBounds_toArray,List.set_cons_zero,List.set_cons_succ]
        refine zd (i:=23) (by kernel_rfl) rfl (fun K hK=> ?_)
        go_simp;refine hK.out _ _ ⟨B9,fun h=> absurd h (by decide)⟩ ?_
        clear hK K Av Az B9;refine zI (by kernel_rfl) ?_ _
        go_wp2_with fail;have hf:=m4.to (.slice ka1 kn1 kc1) (.slice va1 vn1 vc1)
        go_roundw
        case rel=> exact ⟨i+1, .slice ka1 kn1 kc1, .slice va1 vn1 vc1,by omega,by go_num,by rw [WJ.out,List.map_append,List.map_append];exact hf⟩
        case measure=> simp [intOf];omega
  ·obtain rfl:i=n:=by omega
   rw [zk (by omega)] at m
   have hd:=zld m (fun j=> B≤j∧j < wr.heap.size) (fun j h1 h2=> ⟨h1,h2⟩);have HD:=zh (zn hd m.below);clear hd m;go_wp2_with fail;go_ret;exact ⟨B,rfl,by rw [hB];exact HD.out.1,by rw [hB];exact HD.out.2⟩
end
section
open Go.RowKit
theorem zjY {α β:Type} (l:List α) (f:α→β) (d:β) (h:0 < l.length):(l.map f)[0]? =some ((l.head?.map f).getD d):=by
 cases l with
 | nil=> simp at h
 | cons x l=> rfl
theorem zkT:{d:Nat}→(t:Tr d)→0 < zH t→(zC t)[0]? =some (zad t)
 | 0,t,h=> zjY (zS t) (·.1) 0 h
 | _+1,t,h=> zjY (zx t) zad 0 h
structure zaQ (B p:Nat) (P0:Obj) (w0:World) (kv:Value) (ks:List Nat) (cv:Value) (ps:List Nat) (W:World):Prop where
 k:zK zhn 3 132 W (p+1) kv ks
 c:zK zcV 1 98 W B cv ps
 cp:∀g,cv.ownBlock=some g→g < p
 hp:W.heap[p]? =some P0
 Bp:B≤p
 below:Below B w0 W
section
variable {B p:Nat} {P0:Obj} {w0:World} {kv cv:Value} {ks ps:List Nat} {W:World}
theorem zaQ.lt (m:zaQ B p P0 w0 kv ks cv ps W):p < W.heap.size:=(zg m.hp).1
theorem zaQ.alloc (m:zaQ B p P0 w0 kv ks cv ps W) (o:Obj):zaQ B p P0 w0 kv ks cv ps (W.alloc o):=
 ⟨m.k.alloc o,m.c.alloc o,m.cp,by rw [Below.heap_alloc _ _ _ m.lt];exact m.hp,m.Bp,m.below.alloc (by have:=m.lt;have:=m.Bp;omega) o⟩
theorem zaQ.drew (m:zaQ B p P0 w0 kv ks cv ps W):zaQ B p P0 w0 kv ks cv ps W.drew:=⟨m.k,m.c,m.cp,m.hp,m.Bp,m.below.drew⟩
theorem zaQ.app (m:zaQ B p P0 w0 kv ks cv ps W) {b k:Nat} (hs:zM zhn 3 W (some ⟨b,0,none⟩) 1 [k]) (hl:ks.length≤100000000):
 ∃v' w',(∀ty,(Builtin.append_ #[249,249] ty #[kv, .slice (some ⟨b,0,none⟩) 1 1]).run Tryz.prog W= .ok v' w')∧zaQ B p P0 w0 v' (ks++ [k]) cv ps w'∧W.grownBy w' kv.ownBlock:=by
 obtain ⟨i0,hi,AG,Ai,Ax⟩:=zW zmA;have hlt:=m.lt;have UQ:=m.Bp;have Du:=m.k.lt;obtain ⟨v',w',hr,ho,hg,-,AF⟩:=run_append_own_at (P:=Tryz.prog) W (p+1) 249 249 132 i0 _ 3 16 Tryz.underlying249 hi AG Ai Ax rfl (by decide) kv ks.length _ m.k ⟨b,0,none⟩ 1 1 (zB zhn [k]) rfl (zM.cells zeT (by decide) hs) (fun u hu=> by
  obtain ⟨x,-,hx⟩:=List.mem_flatMap.1 hu;exact zjR x u hx) (by unfold maxLen;omega) (by omega) (by omega)
 refine ⟨v',w',fun ty=> hr,⟨?_,m.c.kept hg ?_,m.cp, ?_,m.Bp,m.below.grown hg (by omega) (fun j hj=> by have:=(Du j hj).1;omega)⟩,hg⟩
 ·unfold zK;rw [zaj,List.length_append];exact ho
 ·cases K9:cv.ownBlock with
  | none=> exact .inl rfl
  | some g=> exact .inr fun e=> by have:=m.cp g K9;have:=(Du g e.symm).1;omega
 ·rw [hg.block p hlt (fun e=> by have:=(Du p e.symm).1;omega)];exact m.hp
theorem znm {ops:Array Oper} {o:Oper} {a:Act} {K:Act→World→Prop} {Q:Exit→Act→World→Prop} {E:Prop} {v:Value} (hg:o.guard=none) (d x:Operand) (GL:o.op=Op.call {callee:=Callee.builtin Builtin.append,args:=#[d,x],argTypes:=#[249,249]})
 {b k:Nat} (hd:a.eval d=v) (hx:a.eval x= .slice (some ⟨b,0,none⟩) 1 1) (m:zaQ B p P0 w0 v ks cv ps W) (hs:zM zhn 3 W (some ⟨b,0,none⟩) 1 [k]) (hl:ks.length≤100000000)
 (h:∀v' w',zaQ B p P0 w0 v' (ks++ [k]) cv ps w'→W.grownBy w' v.ownBlock→K (a.put o.dst v') w'):
 if Region.wanted o (yielded ops a.tmps)=true then Oper.wp Tryz.prog o a W K Q else E:=by
 obtain ⟨v',w',hr,m',IB⟩:=m.app hs hl;exact zL hg d x _ _ GL _ _ hd hx (hr _) (h v' w' m' IB)
end
def zcy (kv cv:Value):Obj:= .cells #[.bool false,kv, .slice none 0 0,cv, .int .u32 0] 251
theorem zaQ.node {B p:Nat} {x cv':Value} {w0:World} {kv cv:Value} {ks ps:List Nat} {W:World} (m:zaQ B p (.cells #[.bool false,x, .slice none 0 0,cv', .int .u32 0] 251) w0 kv ks cv ps W):
 W.cell? ⟨p,1,none⟩=some x∧W.frozen? ⟨p,1,none⟩=false:=by
 have h1:=m.hp;refine ⟨?_, ?_⟩ <;> simp [World.cell?,World.frozen?,h1]
theorem zaQ.to {B p:Nat} {kv' cv':Value} {w0:World} {kv cv:Value} {ks ps:List Nat} {W:World} (m:zaQ B p (.cells #[.bool false,kv', .slice none 0 0,cv', .int .u32 0] 251) w0 kv ks cv ps W) (x:Value):
 zaQ B p (.cells #[.bool false,x, .slice none 0 0,cv', .int .u32 0] 251) w0 kv ks cv ps (W.setCell ⟨p,1,none⟩ x):=by
 have h1:=heap_setCell_same W p 1 _ _ x m.hp;have AR:(W.setCell ⟨p,1,none⟩ x).heap.size=W.heap.size:=by simp
 have hg:W.grownBy (W.setCell ⟨p,1,none⟩ x) (some p):=⟨rfl,rfl,rfl,by rw [AR];exact zl,fun j hj Aj=> by
  rw [heap_setCell_other _ _ j _ (fun e=> Aj (by rw [e]))]⟩
 have Du:=m.k.lt;have UQ:=m.Bp;have hlt:=m.lt;refine ⟨m.k.kept hg (.inr fun e=> by have:=(Du p e).1;omega),m.c.kept hg (.inr fun e=> by have:=m.cp p e;omega),m.cp,h1,m.Bp,m.below.grown hg (by omega) (fun j hj=> by cases hj;exact UQ)⟩
theorem zi3 {S:Nat→Prop} {d B p:Nat} {w0 w:World} {kv cv:Value} {ps:List Nat} {ks:List (Tr d)} (m:zaQ B p (zcy kv cv) w0 kv (ks.map zad) cv ps w) (GM:ps.length=ks.length)
 (hN:∀(i q:Nat) (k:Tr d),ps[i]? =some q→ks[i]? =some k→zQ w0 S q k) (hS:∀j,S j→j < B):zQ w (fun j=> S j∨(B≤j∧j < w.heap.size)) p (mkT ks):=by
 obtain ⟨ka,kc,rfl,hk,-,BX⟩:=m.k.row zeT;obtain ⟨ca,cc,rfl,hc,-,Em⟩:=m.c.row zE;have hlt:=m.lt;have UQ:=m.Bp;have Ga:zC (mkT ks)=ks.map zad:=rfl;rw [List.length_map] at hk;refine ⟨ka,kc,ca,cc,ps,⟨⟨.int .u32 0, ?_⟩, .inr ⟨UQ,hlt⟩,fun b o e=> ?_,(fun b o e=> by cases e),fun b o e=> ?_⟩,hk.keys, ?_,GM,fun i q k hq hk=> ?_⟩
 ·have:=m.hp;unfold zcy at this;rw [List.length_map,GM] at this;exact this
 ·obtain ⟨h1,h2⟩:=BX b o e;subst h2;subst e;have:=m.k.lt b rfl;exact .inr ⟨by omega,this.2⟩
 ·obtain ⟨h1,h2⟩:=Em b o e;subst h2;subst e;have:=m.c.lt b rfl;exact .inr ⟨h1,this.2⟩
 ·rw [zpk,← GM];exact hc.ptrs
 ·exact ((hN i q k hq hk).same (zbk.of_below m.below hS)).more (fun j hj=> .inl hj)
theorem zdN {S:Nat→Prop} {d:Nat} {w:World} {b0 o0 n c:Nat} {ps:List Nat} {ks:List (Tr d)} (h:zM zcV 1 w (some ⟨b0,o0,none⟩) n ps) (hn:n≤1000) (GM:ps.length=ks.length)
 (hN:∀(i q:Nat) (k:Tr d),ps[i]? =some q→ks[i]? =some k→zQ w S q k) (h0:∀k ∈ ks,0 < zH k) (hS:∀j,S j→j < w.heap.size):
 Calls Tryz.prog 152 #[.slice (some ⟨b0,o0,none⟩) n c] w fun r w'=> ∃p,r= .returned (zv p)∧zQ w' (fun j=> S j∨(w.heap.size≤j∧j < w'.heap.size)) p (mkT ks)∧Below w.heap.size w w':=by
 have Ac:=h.1;have HH:=zh h;have HN:=zh hN;have HC:=zh (zdg (c:=c) h hn);clear h hN;unfold zv;go_enter Tryz.func152,Tryz.ntmps152;go_wp2_with fail;refine HC.out.mono ?_;rintro e w1 ⟨cv,rfl,Vd,Aa⟩;obtain ⟨ca,cn,cc,rfl⟩:=Vd.form;have AN:=Vd.lt;have m0:zaQ w.heap.size w1.heap.size (zcy (.slice none 0 0) (.slice ca cn cc)) w (.slice none 0 0) [] (.slice ca cn cc) ps (w1.alloc (zcy (.slice none 0 0) (.slice ca cn cc))):=
  ⟨World.ownsRow_nil _ _ _ _,Vd.alloc _,fun g hg=> (AN g hg).2,heap_alloc_new w1 _,Aa.size,Aa.alloc Aa.size _⟩
 have M9:=zh m0;unfold zcy at M9;clear m0 Vd AN HC;go_wp2_with fail;generalize w1.alloc (.cells #[.bool false, .slice none 0 0, .slice none 0 0, .slice ca cn cc, .int .u32 0] 251)=w2 at *;generalize hp:w1.heap.size=p at *;generalize hB:w.heap.size=B at *
 go_loopw [12] (fun u12 wr=> ∃i:Nat,∃kv:Value,i≤n∧u12= .int .i64 i∧zaQ B p (zcy kv (.slice ca cn cc)) w kv ((ks.take i).map zad) (.slice ca cn cc) ps wr) (fun u12 _=> n - (intOf u12).toNat)
 case atStart=> exact ⟨0, .slice none 0 0,by omega,rfl,M9.out⟩
 case round=>
  obtain ⟨i,kv,hi,rfl,m⟩:=hrel;obtain ⟨ka0,kn0,kc0,rfl⟩:=m.k.form
  by_cases hlt:i < n
  ·have Bb:(i:Int) < (n:Int):=by omega
   obtain ⟨q,hq⟩:∃q,ps[i]? =some q:=⟨_,ze (by omega)⟩
   obtain ⟨k,hk⟩:∃k,ks[i]? =some k:=⟨_,ze (by omega)⟩
   have Ah:=HH.out.below m.below (by omega)
   obtain ⟨b',o',FF,hc⟩:=Ah.ptr i q hq;simp only [Option.some.injEq,Addr.mk.injEq,and_true] at FF;obtain ⟨rfl,rfl⟩:=FF;unfold zv at hc;have jE:=(HN.out i q k hq hk).same (zbk.of_below m.below hS);have BX:=h0 k (zm hk);obtain ⟨ka,kc,va,vn,vc,ca',cn',cc',AH,Eu⟩:=jE.box;obtain ⟨-,x1,-,-,IM⟩:=AH.reads;obtain ⟨kb,ko,fk,rfl,Yd,z0,z1,z2⟩:=Eu.list 0 BX;rw [zkT k BX] at Yd;obtain rfl:zad k=fk:=Option.some.inj Yd;have BY:(0:Int) < (zH k:Int):=by omega
   have Gi:(ks.take (i+1)).map zad=(ks.take i).map zad++ [zad k]:=by rw [List.take_add_one,hk,List.map_append];rfl
   have WJ:=zh Gi;have EF:((ks.take i).map zad).length≤1000:=by rw [List.length_map,List.length_take];omega
   have Y7:S q:=AH.self;have cu:q≠p:=fun e=> by have:=hS q Y7;have:=m.Bp;omega
   have FV:kb≠p:=fun e=> by have:=hS kb (AH.keys kb ko rfl);have:=m.Bp;omega
   simp only [Nat.zero_mul,Nat.add_zero] at z0 z1 z2;have Yp:∀W,Below B w W→W.cell? ⟨q,1,none⟩=some (.slice (some ⟨kb,ko,none⟩) (zH k) kc)∧W.cell? ⟨kb,ko,none⟩=some (.int .u16 (zj (zad k):Int))∧W.cell? ⟨kb,ko+1,none⟩=some (.int .u32 (zo (zad k):Int))∧W.cell? ⟨kb,ko+2,none⟩=some (.int .u64 (zp (zad k):Int)):=fun W hW=> by
        have hs:zbk S wr W:=fun j hj=> (hW.block j (hS j hj)).trans (m.below.block j (hS j hj)).symm;have ED:=AH.keys kb ko rfl;exact ⟨(zau hs Y7 _).trans x1,(zau hs ED _).trans z0,(zau hs ED _).trans z1,(zau hs ED _).trans z2⟩
   have IZ:=zh Yp;have Cq:=Yp wr m.below;have m1:=m.drew;unfold zcy at m1;have mK:=(m1.alloc (.cells #[.int .u16 (zj (zad k):Int), .int .u32 (zo (zad k):Int), .int .u64 (zp (zad k):Int)] 132));have mK':zaQ B p (.cells #[.bool false, .slice ka0 kn0 kc0, .slice none 0 0, .slice ca cn cc, .int .u32 0] 251) w (.slice ka0 kn0 kc0) ((ks.take i).map zad) (.slice ca cn cc) ps (wr.alloc (.cells #[.int .u16 (zj (zad k):Int), .int .u32 (zo (zad k):Int), .int .u64 (zp (zad k):Int)] 132)).drew:=mK;have pK:zM zhn 3 (wr.alloc (.cells #[.int .u16 (zj (zad k):Int), .int .u32 (zo (zad k):Int), .int .u64 (zp (zad k):Int)] 132)).drew (some ⟨wr.heap.size,0,none⟩) 1 [zad k]:=zM.new (enc:=zhn) wr (zad k) 132;obtain ⟨y1,y2⟩:=m1.node;obtain ⟨yK1,yK2⟩:=mK'.node;clear mK m Gi Ah jE AH Eu Yd Y7 Yp x1 z0 z1 z2 hq hk;generalize zad k=fk at *;generalize zH k=lk at *;go_wp2_with fail;obtain ⟨l0,l1,l2,l3⟩:=Cq;obtain ⟨b0,b1,b2,b3⟩:=IZ.out _ mK'.below
   go_region_law
        (first
          | (refine znm (v:= .slice ka0 kn0 kc0) (o:=⟨some 28,_,_,_,_,_⟩) rfl _ _ rfl rfl rfl (by with_reducible exact mK') (by with_reducible exact pK) (by omega) ?_;intro kv' W1 mN Cf;obtain ⟨ka1,kn1,kc1,rfl⟩:=mN.k.form;obtain ⟨yN1,yN2⟩:=mN.node))
   all_goals
        go_wp2_with fail;have hf:=mN.to (.slice ka1 kn1 kc1)
        go_roundw
        case rel=> exact ⟨i+1, .slice ka1 kn1 kc1,by omega,by go_num,by rw [WJ.out];exact hf⟩
        case measure=> simp [intOf];omega
  ·obtain rfl:i=n:=by omega
   rw [zk (by omega)] at m
   have hd:=zi3 m GM HN.out hS;have HD:=zh (zn hd m.below);clear hd m;go_wp2_with fail;go_ret;exact ⟨p,rfl,by rw [hB];exact HD.out.1,by rw [hB];exact HD.out.2⟩
end
end Go.Proofs.YtfldlfladcfggaaGreat
