/- Lemmas of the walks, merged and pressed by press.py. Conditions: those of each theorem. -/
import Derived.Test.YtfldlfladcfggaaGreatM2
import Derived.Test.YtfldlfladcfggaaGreatM14
import Derived.Lib.Overlaps
import Derived.Shelf.RegionOpenPlain
import Derived.RangeFuncNested
import Derived.RangeFuncBound
import Derived.RangeFuncCalls
import Derived.RangeFuncLeaves
import Derived.Test.YtfldlfladcfggaaGreatM1
import Derived.Test.YtfldlfladcfggaaGreatM13
set_option maxRecDepth 100000
set_option maxHeartbeats 64000000
set_option linter.all false
namespace Go.Proofs.YtfldlfladcfggaaGreat
section
open Go.RowKit
theorem zaY {P:Program} {ops:Array Oper} {o:Oper} {a:Act} {w:World} {K:Act→World→Prop} {Q:Exit→Act→World→Prop} {E:Prop}
 (hg:o.guard=none) (d x:Operand) (dT sT:TypeId) (GL:o.op=Op.call {callee:=Callee.builtin Builtin.copy,args:=#[d,x],argTypes:=#[dT,sT]})
 (v u:Value) (hd:a.eval d=v) (hx:a.eval x=u) {v':Value} {w':World} (hr:(Builtin.copy_ #[dT,sT] o.type #[v,u]).run P w= .ok v' w') (hK:K (a.put o.dst v') w'):
 if Region.wanted o (yielded ops a.tmps)=true then Oper.wp P o a w K Q else E:=by
 have hw:Region.wanted o (yielded ops a.tmps)=true:=by simp [Region.wanted,hg]
 rw [if_pos hw];unfold Oper.wp;simp [execOp,GL,resolve,invoke,builtin,hd,hx,hr,Result.andThen];exact hK
theorem zaE {P:Program} {w:World} {ops:Array Oper} {rest:List Oper} {o:Oper} {a:Act} {Q:Exit→Act→World→Prop} (Ib:o.guard=none) (d s:Operand) (t t':TypeId)
 (ho:o.op= .call {callee:= .builtin .copy,args:=#[d,s],argTypes:=#[t,t']}) {v':Value} {w':World}
 (hr:(Builtin.copy_ #[t,t'] o.type #[a.eval d,a.eval s]).run P w= .ok v' w') (h:wpList P ops Q rest (a.put o.dst v') w'):wpList P ops Q (o::rest) a w:=
 wpList_plain Ib fun _ hK=> by
  unfold Oper.wp execOp;simp only [ho,resolve,invoke,builtin,Sem.run_bind,Sem.run_pure,Result.andThen_ok,List.map_toArray,List.map_cons,List.map_nil,hr];exact hK _ _ h
theorem zL {P:Program} {ops:Array Oper} {o:Oper} {a:Act} {w:World} {K:Act→World→Prop} {Q:Exit→Act→World→Prop} {E:Prop}
 (hg:o.guard=none) (d x:Operand) (dT sT:TypeId) (GL:o.op=Op.call {callee:=Callee.builtin Builtin.append,args:=#[d,x],argTypes:=#[dT,sT]})
 (v u:Value) (hd:a.eval d=v) (hx:a.eval x=u) {v':Value} {w':World} (hr:(Builtin.append_ #[dT,sT] o.type #[v,u]).run P w= .ok v' w') (hK:K (a.put o.dst v') w'):
 if Region.wanted o (yielded ops a.tmps)=true then Oper.wp P o a w K Q else E:=by
 have hw:Region.wanted o (yielded ops a.tmps)=true:=by simp [Region.wanted,hg]
 rw [if_pos hw];unfold Oper.wp;simp [execOp,GL,resolve,invoke,builtin,hd,hx,hr,Result.andThen];exact hK
theorem za8 {P:Program} {w:World} {ops:Array Oper} {rest:List Oper} {o:Oper} {a:Act} {Q:Exit→Act→World→Prop} (Ib:o.guard=none) (s x:Operand) (t t':TypeId)
 (ho:o.op= .call {callee:= .builtin .append,args:=#[s,x],argTypes:=#[t,t']}) {v':Value} {w':World}
 (Be:(Builtin.append_ #[t,t'] o.type #[a.eval s,a.eval x]).run P w= .ok v' w') (h:wpList P ops Q rest (a.put o.dst v') w'):wpList P ops Q (o::rest) a w:=
 wpList_plain Ib fun _ hK=> by
  unfold Oper.wp execOp;simp only [ho,resolve,invoke,builtin,Sem.run_bind,Sem.run_pure,Result.andThen_ok,List.map_toArray,List.map_cons,List.map_nil,Be];exact hK _ _ h
theorem zjf {w:World} {vb b:Nat} {ca cb:Array Value} {ta tb:TypeId} (h1:w.heap[vb]? =some (.cells ca ta (0,0))) (h2:w.heap[b]? =some (.cells cb tb (0,0))) (Aj:vb≠b) (Ay:cb.size≠0) (o la va lb vc:Nat):
 (callFunc 217 #[.slice (some ⟨vb,0,none⟩) la va, .slice (some ⟨b,o,none⟩) lb vc]).run Tryz.prog w= .ok (.value (.bool false)) w:=by
 obtain ⟨i0,hi,AG,Ai,Ax⟩:=zW zgi;rw [run_callFunc_extern Tryz.func217 (by kernel_rfl) (by kernel_rfl) (by kernel_rfl) (e:=Extern.SlicesOverlaps.overlaps #[138,138] #[4]) (by kernel_rfl),
  Lib.run_overlaps_apart w 138 4 141 Tryz.underlying138 4 (fun w=> by simp [sizeOf,typeInfo,hi,Ai]) ⟨vb,0,none⟩ ⟨b,o,none⟩ la va lb vc Aj ta tb ca.size cb.size (by simp [World.shape?,h1]) (by simp [World.shape?,h2]) Ay (by simp [World.frozen?,h1]) (by simp [World.frozen?,h1])]
 rfl
theorem zk4 {w:World} {B:Nat} {v:Value} {l:List En} (h:zK zaW 4 141 w B v l) (i:Nat) (hi:i≤l.length) (hl:l.length≤1000) {b:Nat} {e:En} (hb:w.heap[b]? =some (.cells (zaW e).toArray 141 (0,0))) (Aj:v.ownBlock≠some b) (hB:B≤w.heap.size):
 Calls Tryz.prog 191 #[v, .int .i64 (i:Int), .slice (some ⟨b,0,none⟩) 1 1] w fun r w'=> ∃v',r= .returned v'∧zK zaW 4 141 w' B v' (l.take i++e::l.drop i)∧w.grownBy w' v.ownBlock:=by
 obtain ⟨i0,AD,AG,Ai,Ax⟩:=zW zgi;have GR:zM zaW 4 w (some ⟨b,0,none⟩) 1 [e]:=by
  refine ⟨rfl,fun j r hj=> ?_⟩;have EB:j < 1:=by simpa using (zi hj).1
  obtain rfl:j=0:=by omega
  simp at hj;subst hj;refine ⟨b,0,rfl,fun t x hx=> ?_⟩;simp [World.cell?,hb,hx]
 by_cases C2:i=l.length
 ·subst C2;obtain ⟨v',w',BE,ho,hg⟩:=h.app zN (by decide) zbs Tryz.underlying138 AD AG Ai Ax rfl 1 GR (by omega) (by omega) hB
  have BQ:zK zaW 4 141 w' B v' (l.take l.length++e::l.drop l.length):=by rw [List.take_length,List.drop_length];exact ho
  have HR:=zh (zn BQ hg);rcases h.cases with ⟨rfl,rfl⟩ | ⟨g,cap,rfl,Bc,BF,hR⟩
  ·clear h hb Aj GR ho hg BQ hi hl AD AG Ai Ax;go_enter Tryz.func191,Tryz.ntmps191
   go_wp2_with (at_builtin;refine za rfl _ _ _ rfl BE ?_)
   all_goals
        go_ret;exact ⟨_,rfl,HR.out.1,HR.out.2⟩
  ·have BO:=hR.le;have Ce:=hR.cm;clear h hb Aj GR ho hg BQ hi AD AG Ai Ax hR;generalize l.length=n at *;go_enter Tryz.func191,Tryz.ntmps191
   go_wp2_with (at_builtin;refine za rfl _ _ _ rfl BE ?_)
   all_goals
        go_ret;exact ⟨_,rfl,HR.out.1,HR.out.2⟩
 ·have hlt:i < l.length:=by omega
  rcases h.cases with ⟨rfl,rfl⟩ | ⟨g,cap,rfl,Bc,BF,hR⟩
  ·simp at hlt
  ·have G6:g≠b:=fun e=> Aj (by rw [e];rfl)
   have BO:=hR.le;have Ce:cap≤9223372036854775807:=by have:=hR.cm;unfold maxLen at this;omega
   have BJ:(l.drop i).length=l.length - i:=List.length_drop;have Ci:(l.take i).length=i:=by rw [List.length_take];omega
   have E6:=hR.row zN;have EG:zM zaW 4 w (some ⟨g,i * 4,none⟩) (l.length - i) (l.drop i):=by simpa using E6.drop i
   by_cases EW:l.length+1≤cap
   ·-- in place
    obtain ⟨w1,BK,C9,-,BC⟩:=zaX zN zbs (dT:=138) (sT:=138) Tryz.underlying138 AD Ai (w:=w.drew) (hR.heap rfl) (i+1) (by omega) (l.drop i) ⟨g,i * 4,none⟩ (zM.cells zN (by decide) (w:=w.drew) EG) (by rw [BJ];omega) (l.length+1 - i) (l.length - i) (by rw [BJ];simp only [Nat.min_def];split <;> omega)
    have DJ:(l.take (i+1)).length=i+1:=by rw [List.length_take];omega
    have Bu:(l.take (i+1)++l.drop i).length=l.length+1:=by rw [List.length_append,DJ,BJ];omega
    have Aa:w1.heap[b]? =some (.cells (zaW e).toArray 141 (0,0)):=(BC.block b (fun e=> G6 e.symm)).trans hb;have GS:∀j u,(zB zaW [e])[j]? =some u→w1.cell? ((⟨b,0,none⟩:Addr).add j)=some u:=fun j u hu=> by
     rw [zdt];simp [World.cell?,Aa]
     simpa [zB] using hu
    obtain ⟨w2,B7,-,B0,A9⟩:=zaX zN zbs (dT:=138) (sT:=138) Tryz.underlying138 AD Ai C9 i (by rw [Bu];omega) [e] ⟨b,0,none⟩ GS (by show i+1≤cap;omega) 1 (l.length+1 - i) (by simp only [Nat.min_def];split <;> simp <;> omega)
    have Gv:=B0 (by rw [Bu];show i+1≤_;omega)
    have AL:(l.take (i+1)++l.drop i).take i++ [e]++(l.take (i+1)++l.drop i).drop (i+ [e].length)=l.take i++e::l.drop i:=by
     rw [List.take_append_of_le_length (by omega),List.take_take,Nat.min_eq_left (by omega),show i+ [e].length=(l.take (i+1)).length by rw [DJ];rfl,List.drop_left,List.append_assoc];rfl
    rw [AL] at Gv;have BG:(l.take i++e::l.drop i).length=l.length+1:=by rw [List.length_append,List.length_cons,Ci,BJ];omega
    have Af:=Gv.own zN Bc;rw [BG] at Af;have hg:w.grownBy w2 (some g):=⟨(A9.os.trans BC.os),(A9.tape.trans BC.tape),(A9.output.trans BC.output),by rw [A9.size,BC.size];exact zl,fun j hj Aj=> by
     have IC:j≠g:=fun e=> Aj (by rw [e])
     rw [A9.block j IC,BC.block j IC];rfl⟩
    have HR:=zh (zn Af hg);obtain ⟨curg,Nv,Nw,-⟩:=hR.ex;have II:=zjf hb Nv (fun e=> G6 e.symm) (by rw [Nw];omega) ((i+1) * 4) 1 1
    have BB:IntKind.i64.wrap ((i:Int)+1)=((i+1:Nat):Int):=by rw [zw _ (by omega)];omega
    have Dw:IntKind.i64.wrap ((l.length:Int)+1)=((l.length+1:Nat):Int):=by rw [zw _ (by omega)];omega
    have Jn:¬(i:Int)=(l.length:Int):=by omega
    have BH:¬((l.length+1:Nat):Int) > (cap:Int):=by omega
    have PM:¬cap=i+1:=by omega
    have PN:(0:Int)≤(i:Int)+1:=by omega
    have IF:i≤l.length:=by omega
    have QW:(i:Int)≤(l.length:Int)+1:=by omega
    have NM:¬cap=i:=by omega
    rw [BJ] at BK;clear h hb Aj GR hi hR E6 EG C9 B0 Gv BC A9 Aa GS Af hg AL BG Bu DJ AD AG Ai Ax BJ Ci Nv Nw;generalize hn:l.length=n at *;go_enter Tryz.func191,Tryz.ntmps191
    go_wp2_with (simp only [II])
    go_region_law (refine zaY rfl _ _ 138 138 rfl _ _ (by simp [Act.eval,Act.put];done) (by simp [Act.eval,Act.put]) (BK _ _ _) ?_)
    go_wp2_with (at_builtin;refine zaE rfl _ _ _ _ rfl (B7 _ _ _) ?_)
    go_ret;exact ⟨_,rfl,HR.out.1,HR.out.2⟩
   ·-- a new row
    obtain ⟨cap1,w1,BK,C9,F9,Aa,FZ⟩:=zeD zN (by decide) (t:=138) (tn:=3) (kq:= .i64) (kn:= .i64) Tryz.underlying138 Tryz.underlying3 AD AG Ai Ax rfl hR i (by omega) (l.length+1 - i) (by omega) (by omega) (by omega) (by omega)
    have Au:b < w.heap.size:=(zg hb).1;have Sk:w1.heap[b]? =some (.cells (zaW e).toArray 141 (0,0)):=(Aa.block b Au).trans hb;have GS:∀j u,(zB zaW [e])[j]? =some u→w1.cell? ((⟨b,0,none⟩:Addr).add j)=some u:=fun j u hu=> by
     rw [zdt];simp [World.cell?,Sk]
     simpa [zB] using hu
    obtain ⟨w2,B7,B0,-,A9⟩:=zaX zN zbs (dT:=138) (sT:=138) Tryz.underlying138 AD Ai C9 i (by rw [Ci];omega) [e] ⟨b,0,none⟩ GS (by show i+1≤cap1;omega) 1 (l.length+1 - i) (by simp only [Nat.min_def];split <;> simp <;> omega)
    have K0:zM zaW 4 w2.drew (some ⟨g,i * 4,none⟩) (l.length - i) (l.drop i):=by
     refine EG.same (S:=fun j=> j=g) (fun b' o' e'=> by cases e';rfl) (fun j hj=> ?_)
     subst hj;exact (A9.block j (by omega)).trans (Aa.block j BF)
    have DJ:((l.take i).take i++ [e]).length=i+1:=by rw [List.length_append,List.length_take,List.length_take];simp;omega
    obtain ⟨w3,KV,Gv,-,CA⟩:=zaX zN zbs (dT:=138) (sT:=138) Tryz.underlying138 AD Ai (w:=w2.drew) (B0.heap rfl) (i+1) (by rw [DJ];exact zl) (l.drop i) ⟨g,i * 4,none⟩ (zM.cells zN (by decide) K0) (by rw [BJ];omega) (l.length - i) (l.length - i) (by rw [BJ];simp)
    have AL:((l.take i).take i++ [e]).take (i+1)++l.drop i=l.take i++e::l.drop i:=by
     rw [zk (by omega),List.take_take,Nat.min_self,List.append_assoc];rfl
    rw [AL] at Gv;have BG:(l.take i++e::l.drop i).length=l.length+1:=by rw [List.length_append,List.length_cons,Ci,BJ];omega
    have Af:=Gv.own zN hB;rw [BG] at Af;have hg:w.grownBy w3 (some g):=⟨CA.os.trans (A9.os.trans Aa.os),CA.tape.trans (A9.tape.trans Aa.tape),CA.output.trans (A9.output.trans Aa.output),by rw [CA.size];show w.heap.size≤w2.heap.size;rw [A9.size,FZ];omega,fun j hj Aj=> by
     rw [CA.block j (by omega)]
     exact (A9.block j (by omega)).trans (Aa.block j hj)⟩
    have HR:=zh (zn Af hg);have Dw:IntKind.i64.wrap ((l.length:Int)+1)=(l.length:Int)+1:=zw _ (by omega)
    have LB:IntKind.i64.wrap ((l.length:Int)+1 - (i:Int))=((l.length+1 - i:Nat):Int):=by rw [zw _ (by omega)];omega
    have BB:IntKind.i64.wrap ((i:Int)+1)=(i:Int)+1:=zw _ (by omega)
    have Jn:¬(i:Int)=(l.length:Int):=by omega
    have BH:(cap:Int) < (l.length:Int)+1:=by omega
    have PM:¬cap1=i+1:=by omega
    have aD:¬cap1=i:=by omega
    have NM:¬cap=i:=by omega
    have PN:(0:Int)≤(i:Int)+1:=by omega
    have IF:i≤l.length:=by omega
    have QW:(i:Int)≤(l.length:Int)+1:=by omega
    have cj:i≤l.length+1:=by omega
    have Ty:i+(l.length+1 - i)=l.length+1:=by omega
    have aA:l.length+1≤cap1:=by omega
    have aB:i≤cap:=by omega
    rw [BJ] at KV;rw [Ty] at BK;clear h hb Aj GR hi hR E6 EG C9 B0 Gv A9 CA Aa GS Af hg AL BG DJ AD AG Ai Ax BJ Ci K0 Sk FZ F9 EW Au Ty;generalize hn:l.length=n at *;go_enter Tryz.func191,Tryz.ntmps191
    go_wp2_with (first
     | (at_builtin;refine za8 rfl _ _ _ _ rfl (BK _) ?_)
     | (at_builtin;refine zaE rfl _ _ _ _ rfl (B7 _ _ _) ?_))
    go_region_law (refine zaY rfl _ _ 138 138 rfl _ _ (by simp [Act.eval,Act.put];done) (by simp [Act.eval,Act.put]) (KV _ _ _) ?_)
    go_wp2_with fail;go_ret;exact ⟨_,rfl,HR.out.1,HR.out.2⟩
end
section
open Go Go.RowKit
structure zbD (D:Nat→Prop) (W W':World):Prop where
 os:W'.os=W.os
 tape:W'.tape=W.tape
 output:W'.output=W.output
 size:W.heap.size≤W'.heap.size
 block:∀j,D j→W'.heap[j]? =W.heap[j]?
structure zD (D:Nat→Prop) (W W':World):Prop where
 os:W'.os=W.os
 tape:W'.tape=W.tape
 output:W'.output=W.output
 size:W.heap.size≤W'.heap.size
 block:∀j,j < W.heap.size→¬D j→W'.heap[j]? =W.heap[j]?
theorem zbD.less {D D':Nat→Prop} {A B:World} (h:zbD D A B) (hs:∀j,D' j→D j):zbD D' A B:=⟨h.os,h.tape,h.output,h.size,fun j hj=> h.block j (hs j hj)⟩
theorem zD.refl (D:Nat→Prop) (W:World):zD D W W:=⟨rfl,rfl,rfl,zl,fun _ _ _=> rfl⟩
theorem zD.trans {D D':Nat→Prop} {A B C:World} (h:zD D A B) (k:zD D' B C) (hd:∀j,D' j→D j∨A.heap.size≤j):zD D A C:=
 ⟨k.os.trans h.os,k.tape.trans h.tape,k.output.trans h.output,zs h.size k.size,fun j hj hn=> (k.block j (zt hj h.size) (fun yE=> (hd j yE).elim hn (fun h2=> by omega))).trans (h.block j hj hn)⟩
theorem zD.kept {D E:Nat→Prop} {A B:World} (h:zD D A B) (hE:∀j,E j→j < A.heap.size) (hd:∀j,E j→¬D j):zbD E A B:=⟨h.os,h.tape,h.output,h.size,fun j hj=> h.block j (hE j hj) (hd j hj)⟩
theorem zD.of_grown {D:Nat→Prop} {A B:World} {row:Option Nat} (h:A.grownBy B row) (hr:∀r,row=some r→D r∨A.heap.size≤r):zD D A B:=⟨h.os,h.tape,h.output,h.size,fun j hj hn=> h.block j hj (fun e=> (hr j e.symm).elim hn (fun h2=> by omega))⟩
theorem zD.of_below {D:Nat→Prop} {A B:World} (h:Below A.heap.size A B):zD D A B:=⟨h.os,h.tape,h.output,h.size,fun j hj _=> h.block j hj⟩
theorem zbD.of_below {D:Nat→Prop} {A B:World} (h:Below A.heap.size A B) (hD:∀j,D j→j < A.heap.size):zbD D A B:=⟨h.os,h.tape,h.output,h.size,fun j hj=> h.block j (hD j hj)⟩
structure zba (D:Nat→Prop) (W:World) (D':Nat→Prop) (W':World):Prop where
 new:∀j,D' j→D j∨W.heap.size≤j
 lt:∀j,D' j→j < W'.heap.size
theorem zba.trans {D D1 D2:Nat→Prop} {A B C:World} (h:zba D A D1 B) (k:zba D1 B D2 C) (hs:A.heap.size≤B.heap.size):zba D A D2 C:=⟨fun j hj=> (k.new j hj).elim (h.new j) (fun h2=> .inr (by omega)),k.lt⟩
theorem zba.refl {D:Nat→Prop} {W W':World} (h:∀j,D j→j < W.heap.size) (hs:W.heap.size≤W'.heap.size):zba D W D W':=⟨fun _ hj=> .inl hj,fun j hj=> zt (h j hj) hs⟩
variable {F:Fence} {n:Nat} {P:Program}
end
section
open Go.RowKit
theorem znZ {p g c:Nat} {mv:Value} {F:List Nat} {w:World} (h:zaI w p g c mv F) (i0 n:Nat) (AD:i0 < F.length) (hn:n≤F.length) (hF:F.length≤100000):
 Calls Tryz.prog 188 #[.iface 214 (.pointer (some ⟨p,0,none⟩)), .int .i64 (i0:Int), .int .i64 (n:Int)] w fun e w'=> (∃v,e= .returned v)∧∃F',F'.Perm F∧zaI w' p g c mv F'∧w.grownBy w' (some g):=by
 have HH:=zh h;have hf:=zoI;have kw:=zmo;clear h;go_enter Tryz.func188,Tryz.ntmps188;go_wp2_with fail
 go_loopw [7] (fun u7 wr=> ∃(j:Nat) (F':List Nat),u7= .int .i64 j∧j < F.length∧F'.Perm F∧zaI wr p g c mv F'∧w.grownBy wr (some g)) (fun u7 _=> F.length - (intOf u7).toNat)
 case atStart=> exact ⟨i0,F,rfl,AD,List.Perm.refl _,HH.out,World.grownBy.refl _ _⟩
 case round=>
  obtain ⟨j,F',rfl,hj,hP,hW,hG⟩:=hrel;have Ac:=zdU hP;have HW:=zh hW;have HG:=zh hG;have HP:=zh hP;have hc:=hW.cell;rw [Ac] at hc;have hv:=zgW p _ wr hc;have s1:IntKind.i64.wrap (2 * (j:Int))=2 * (j:Int):=zw _ (by omega)
  have s2:IntKind.i64.wrap (2 * (j:Int)+1)=((2 * j+1:Nat):Int):=by rw [zw _ (by omega)];omega
  have s4:IntKind.i64.wrap (((2 * j+1:Nat):Int)+1)=((2 * j+1+1:Nat):Int):=by rw [zw _ (by omega)];omega
  obtain ⟨m1,CT⟩:∃m1,m1=2 * j+1+1:=⟨_,rfl⟩;rw [← CT] at s4;obtain ⟨m,hm⟩:∃m,m=2 * j+1:=⟨_,rfl⟩;rw [← hm] at s2 s4 CT;obtain ⟨n0,Ft⟩:∃n0,n0=F.length:=⟨_,rfl⟩;rw [← Ft] at Ac hc hv hj hn AD hF ⊢;have g2:¬((m:Int) < 0):=by omega
  have cd:j < m:=by omega
  have Tw:m < m1:=by omega
  clear hW hG hP Ft hm CT
  by_cases h1:m < n
  ·have g1:¬((n:Int)≤(m:Int)):=by omega
   by_cases h2:m1 < n
   ·have g3:((m1:Int) < (n:Int)):=by omega
    have HL:=zh (zbP HW.out n0 m1 m Ac.symm (by omega) (by omega) (by omega))
    go_wp2_with fail;refine HL.out.mono ?_;rintro e w1 ⟨⟨b,rfl⟩,q1,rfl⟩;have WP:=zh (HW.out.drewN q1);have bB:=zh (zbI HG.out q1);have F9:=WP.out.cell;rw [Ac] at F9;have Ij:=zgW p _ _ F9
    cases b
    ·have Ro:=zh (zbP WP.out n0 m j Ac.symm (by omega) (by omega) (by omega))
     go_wp2_with fail;refine Ro.out.mono ?_;rintro e w2 ⟨⟨b,rfl⟩,q2,rfl⟩;have Hn:=zh (HW.out.drewN (q1+q2));have Ff:=zh (zbI HG.out (q1+q2));have Bd:=Hn.out.cell;rw [Ac] at Bd;have Ef:=zdO p _ _ Bd
     cases b
     ·go_wp2_with fail;go_ret;exact ⟨⟨_,rfl⟩,F',HP.out,Hn.out,Ff.out⟩
     ·have HS:=zh (zbQ Hn.out n0 j m Ac.symm (by omega) (by omega) (by omega))
      go_wp2_with fail;refine HS.out.mono ?_;rintro e w3 ⟨rfl,F2,Hr,Fi,AM⟩;have HR:=zh (zn (Hr.trans HP.out) (zn Fi (Ff.out.trans AM)));clear Hr Fi AM;go_wp2_with fail
      go_roundw
      case rel=> exact ⟨m,F2,rfl,by omega,HR.out.1,HR.out.2.1,HR.out.2.2⟩
      case measure=> simp [intOf];omega
    ·have Ro:=zh (zbP WP.out n0 m1 j Ac.symm (by omega) (by omega) (by omega))
     go_wp2_with fail;refine Ro.out.mono ?_;rintro e w2 ⟨⟨b,rfl⟩,q2,rfl⟩;have Hn:=zh (HW.out.drewN (q1+q2));have Ff:=zh (zbI HG.out (q1+q2));have Bd:=Hn.out.cell;rw [Ac] at Bd;have Ef:=zdO p _ _ Bd
     cases b
     ·go_wp2_with fail;go_ret;exact ⟨⟨_,rfl⟩,F',HP.out,Hn.out,Ff.out⟩
     ·have HS:=zh (zbQ Hn.out n0 j m1 Ac.symm (by omega) (by omega) (by omega))
      go_wp2_with fail;refine HS.out.mono ?_;rintro e w3 ⟨rfl,F2,Hr,Fi,AM⟩;have HR:=zh (zn (Hr.trans HP.out) (zn Fi (Ff.out.trans AM)));clear Hr Fi AM;go_wp2_with fail
      go_roundw
      case rel=> exact ⟨m1,F2,rfl,by omega,HR.out.1,HR.out.2.1,HR.out.2.2⟩
      case measure=> simp [intOf];omega
   ·have g3:¬((m1:Int) < (n:Int)):=by omega
    have Ro:=zh (zbP HW.out n0 m j Ac.symm (by omega) (by omega) (by omega))
    go_wp2_with fail;refine Ro.out.mono ?_;rintro e w2 ⟨⟨b,rfl⟩,q2,rfl⟩;have Hn:=zh (HW.out.drewN q2);have Ff:=zh (zbI HG.out q2);have Bd:=Hn.out.cell;rw [Ac] at Bd;have Ef:=zdO p _ _ Bd
    cases b
    ·go_wp2_with fail;go_ret;exact ⟨⟨_,rfl⟩,F',HP.out,Hn.out,Ff.out⟩
    ·have HS:=zh (zbQ Hn.out n0 j m Ac.symm (by omega) (by omega) (by omega))
     go_wp2_with fail;refine HS.out.mono ?_;rintro e w3 ⟨rfl,F2,Hr,Fi,AM⟩;have HR:=zh (zn (Hr.trans HP.out) (zn Fi (Ff.out.trans AM)));clear Hr Fi AM;go_wp2_with fail
     go_roundw
     case rel=> exact ⟨m,F2,rfl,by omega,HR.out.1,HR.out.2.1,HR.out.2.2⟩
     case measure=> simp [intOf];omega
  ·have g1:((n:Int)≤(m:Int)):=by omega
   clear Ac hv;go_wp2_with fail;go_ret;exact ⟨⟨_,rfl⟩,F',HP.out,HW.out,HG.out⟩
def zbj (w:World) (p:Nat) (v mv:Value) (F:List Nat):Prop:=w.heap[p]? =some (.cells #[v,mv] 159 (0,0))∧w.ownsRow 0 86 1 v F.length (F.map uV)
theorem zbj.row {w:World} {p:Nat} {v mv:Value} {F:List Nat} (h:zbj w p v mv F) (hF:F≠ []):∃g c,v= .slice (some ⟨g,0,none⟩) F.length c∧zaI w p g c mv F:=by
 rcases h.2.2 with ⟨e,h0⟩ | ⟨g,cap,cur,e,h0⟩
 ·exact absurd (List.eq_nil_of_length_eq_zero h0) hF
 ·subst e;exact ⟨g,cap,rfl,h⟩
theorem zbj.ne {w:World} {p:Nat} {v mv:Value} {F:List Nat} (h:zbj w p v mv F):some p≠v.ownBlock:=by
 rcases h.2.2 with ⟨rfl,_⟩ | ⟨g',cap,cur,rfl,_,hh,_⟩
 ·intro e;cases e
 ·intro e
  cases e
  rw [h.1] at hh
  cases hh
theorem zm4 {w:World} {v:Value} {F:List Nat} (h:w.ownsRow 0 86 1 v F.length (F.map uV)) (x:Nat) (hl:F.length≤1000000):
 ∃v' w',(Builtin.append_ #[157,157] 157 #[v, .slice (some ⟨w.heap.size,0,none⟩) 1 1]).run Tryz.prog (w.alloc (.cells #[.int .u32 (x:Int)] 86))= .ok v' w'∧w'.ownsRow 0 86 1 v' (F++ [x]).length ((F++ [x]).map uV)∧w.grownBy w' v.ownBlock∧(v'.ownBlock=v.ownBlock∨∃g,v'.ownBlock=some g∧w.heap.size≤g):=by
 obtain ⟨i0,hi,AG,Ai,Ax⟩:=zW infoU;obtain ⟨v',w',hr,ho,hg,-,AF⟩:=run_append_own_at (P:=Tryz.prog) (w.alloc (.cells #[.int .u32 (x:Int)] 86)) 0 157 157 86 i0 _ 1 4 Tryz.underlying157 hi AG Ai Ax rfl (by decide) v F.length _ (h.alloc _) ⟨w.heap.size,0,none⟩ 1 1 [uV x] rfl (zhB w [uV x] 86) (fun u hu=> by
  simp only [List.mem_singleton] at hu;subst hu
  rfl) (by unfold maxLen;omega) (by omega) (by omega)
 refine ⟨v',w',hr, ?_,zca hg, ?_⟩
 ·rw [List.length_append,List.map_append];exact ho
 ·rcases AF with h | h
  ·exact .inl h
  ·exact .inr ⟨_,h,by simp⟩
theorem zju {w:World} {p:Nat} {v mv:Value} {F:List Nat} (h:zbj w p v mv F) (x:Nat) (hk:F.length≤100000):
 Calls Tryz.prog 257 #[.pointer (some ⟨p,0,none⟩), .iface 86 (.int .u32 (x:Int))] w fun e w'=> e= .returned (.tuple #[])∧(∃g c,zaI w' p g c mv (F++ [x])∧(v.ownBlock=some g∨w.heap.size≤g))∧zD (fun j=> j=p∨v.ownBlock=some j) w w':=by
 have Aj:=h.ne;obtain ⟨h1,h2⟩:=h;have AQ:=(zg h1).1;obtain ⟨v',w1,hr,Af,hg,AF⟩:=zm4 (w:=w.drew) h2 x (by omega)
 have YM:F++ [x]≠ []:=by simp
 have G2:w1.heap[p]? =some (.cells #[v,mv] 159 (0,0)):=(hg.block p AQ Aj).trans h1;have c0:w.cell? ⟨p,0,none⟩=some v:=by simp [World.cell?,h1]
 have c1:w1.cell? ⟨p,0,none⟩=some v:=by simp [World.cell?,G2]
 have f1:w1.frozen? ⟨p,0,none⟩=false:=by simp [World.frozen?,G2]
 have KK:v'.ownBlock≠some p:=fun e=> by
  rcases AF with e2 | ⟨g,e2,JH⟩
  ·exact Aj (e.symm.trans e2)
  ·have:=Option.some.inj (e.symm.trans e2);have hs:w.drew.heap.size=w.heap.size:=rfl
   omega
 have AL:zbj (w1.setCell ⟨p,0,none⟩ v') p v' mv (F++ [x]):=⟨heap_setCell_same w1 p 0 #[v,mv] 159 _ G2,Af.kept (zq w1 ⟨p,0,none⟩ v') (.inr KK)⟩;have Cv:zD (fun j=> j=p∨v.ownBlock=some j) w (w1.setCell ⟨p,0,none⟩ v'):=⟨hg.os,hg.tape,hg.output,by rw [World.size_setCell];exact hg.size,fun j hj hn=> by
  rw [heap_setCell_other w1 ⟨p,0,none⟩ j _ (fun e=> hn (.inl e))];exact hg.block j hj (fun e=> hn (.inr e.symm))⟩
 have has:=zl0 (x:Int) w.drew;obtain ⟨g,c,rfl,hW⟩:=AL.row YM;have hL:(F++ [x]).length=F.length+1:=by simp
 rw [hL] at hW Cv hr;have HF:=zh hW;have HA:=zh AF;have HO:=zh Cv;clear hL h2 Af hg hW AL Cv h1 G2 AF Aj KK;go_enter Tryz.func257,Tryz.ntmps257;go_wp2_with fail
 go_region_law (first | (refine zL (o:=⟨some 11,_,_,_,_,_⟩) rfl _ _ _ _ rfl _ _ rfl rfl hr ?_))
 all_goals
  go_wp2_with fail;go_end0;refine ⟨rfl, ?_,HO.out⟩;refine ⟨g,c,HF.out, ?_⟩;rcases HA.out with e | ⟨g',e,JH⟩
  ·exact .inl e.symm
  ·cases e
   exact .inr JH
theorem zaI.cut {w:World} {p g c:Nat} {mv:Value} {F:List Nat} (h:zaI w p g c mv F):zaI (w.setCell ⟨p,0,none⟩ (.slice (some ⟨g,0,none⟩) (F.length - 1) c)) p g c mv F.dropLast:=by
 have Aj:=h.ne;obtain ⟨h1,h2,h3⟩:=h;have hd:F.dropLast.length=F.length - 1:=List.length_dropLast;refine ⟨by rw [hd];exact heap_setCell_same w p 0 #[.slice (some ⟨g,0,none⟩) F.length c,mv] 159 _ h1,by simp, .inr ?_⟩
 rcases h3 with ⟨e,_⟩ | ⟨g',cap,cur,e,hb,hh,Ge,Ce,Fo,ht⟩
 ·cases e
 ·cases e
  refine ⟨g,c,cur,by rw [hd],hb,by rw [heap_setCell_other w ⟨p,0,none⟩ g _ (fun e=> Aj e.symm)];exact hh,by rw [hd];omega,Ce,Fo, ?_⟩
  rw [Nat.mul_one] at ht ⊢;rw [hd,List.map_dropLast,List.dropLast_eq_take,List.length_map,← ht,List.take_take]
  congr 1
  omega
theorem zlC {w:World} {p g c:Nat} {mv:Value} {F:List Nat} (h:zaI w p g c mv F) (x:Nat) (hx:F[F.length - 1]? =some x) (hk:F.length≤100000):
 Calls Tryz.prog 256 #[.pointer (some ⟨p,0,none⟩)] w fun e w'=> e= .returned (.iface 86 (.int .u32 (x:Int)))∧zaI w' p g c mv F.dropLast∧w.grownBy w' (some p):=by
 have c0:=h.cell;have c1:=h.at hx;have f0:w.frozen? ⟨p,0,none⟩=false:=by simp [World.frozen?,h.1]
 have hlt:=(zi hx).1;have HF:=zh (zn h.cut (zq w ⟨p,0,none⟩ (.slice (some ⟨g,0,none⟩) (F.length - 1) c)));have Ep:F.length≤c:=by
  rcases h.2.2 with ⟨e,_⟩ | ⟨g',cap,cur,e,hb,hh,Ge,_⟩
  ·cases e
  ·cases e;exact Ge
 have s1:IntKind.i64.wrap ((F.length:Int) - 1)=((F.length - 1:Nat):Int):=by rw [zw _ (by omega)];omega
 have hm:F.length - 1 < F.length:=by omega
 have YG:F.length - 1≤c:=by omega
 clear h hx hlt;generalize F.length - 1=m at *;generalize F.length=n at *;have g0:(0:Int)≤(m:Int):=by omega
 have g1:(m:Int) < (n:Int):=by omega
 have g2:(m:Int)≤(c:Int):=by omega
 have g3:¬((m:Int) < 0):=by omega
 go_enter Tryz.func256,Tryz.ntmps256;go_wp2_with fail;go_ret;exact ⟨rfl,HF.out.1,HF.out.2⟩
theorem zD.turn {D:Nat→Prop} {w w':World} {g:Nat} (h:w.grownBy w' (some g)) (hD:D g):zD D w w':=⟨h.os,h.tape,h.output,h.size,fun j hj hn=> h.block j hj (fun e=> hn (by cases e;exact hD))⟩
theorem zew {w:World} {p:Nat} {v mv:Value} {F:List Nat} (h:zbj w p v mv F) (x:Nat) (hk:F.length < 100000):
 Calls Tryz.prog 123 #[.iface 214 (.pointer (some ⟨p,0,none⟩)), .iface 86 (.int .u32 (x:Int))] w fun e w'=> e= .returned (.tuple #[])∧(∃g c F',F'.Perm (F++ [x])∧zaI w' p g c mv F'∧(v.ownBlock=some g∨w.heap.size≤g))∧zD (fun j=> j=p∨v.ownBlock=some j) w w':=by
 have HP:=zh (zju h x (by omega))
 have hi:=zn4 p w;have hf:=zpQ;clear h;go_enter Tryz.func123,Tryz.ntmps123;go_wp2_with fail;refine HP.out.mono ?_;clear HP hi hf;rintro e w2 ⟨rfl,⟨g,c,hF,AF⟩,hO⟩;have hL:(F++ [x]).length=F.length+1:=by simp
 have hc:=hF.cell;have hi:=zmC p _ w2 hc;have hf:=zpP;have HU:=zh (zp1 hF F.length (by omega) (by omega))
 have HF:=zh (zn hF (zn AF hO));rw [hL] at hc hi;have s1:IntKind.i64.wrap (((F.length+1:Nat):Int) - 1)=(F.length:Int):=by rw [zw _ (by omega)];omega
 have s2:IntKind.i64.wrap ((F.length:Int)+1 - 1)=(F.length:Int):=by rw [zw _ (by omega)];omega
 clear hF AF hO hL;go_wp2_with fail;refine (zgw (some ⟨g,0,none⟩) (F.length+1) c w2).mono ?_;rintro e w3 ⟨rfl,rfl⟩;go_wp2_with fail;refine HU.out.mono ?_;rintro e w4 ⟨rfl,F',hP,hW,hg⟩;have HR:=zh (zn hP (zn hW hg));clear hP hW hg;go_wp2_with fail;go_end0;obtain ⟨hF,AF,hO⟩:=HF.out;obtain ⟨hP,hW,hg⟩:=HR.out;refine ⟨rfl,⟨g,c,F',hP,hW,AF⟩,⟨hg.os.trans hO.os,hg.tape.trans hO.tape,hg.output.trans hO.output,zs hO.size hg.size,fun j hj hn=> ?_⟩⟩;rw [hg.block j (zt hj hO.size) (fun e=> by
  rcases AF with e2 | e2
  ·exact hn (.inr (e2.trans e.symm))
  ·have:=Option.some.inj e
   omega)]
 exact hO.block j hj hn
theorem zi0 {w:World} {p g c:Nat} {mv:Value} {F:List Nat} (h:zaI w p g c mv F) (Aj:F≠ []) (hk:F.length < 100000):
 Calls Tryz.prog 140 #[.iface 214 (.pointer (some ⟨p,0,none⟩))] w fun e w'=> ∃(x:Nat) (F':List Nat),e= .returned (.iface 86 (.int .u32 (x:Int)))∧(x::F').Perm F∧zaI w' p g c mv F'∧zD (fun j=> j=p∨j=g) w w':=by
 have hl:0 < F.length:=List.length_pos_iff.2 Aj;have s1:IntKind.i64.wrap ((F.length:Int) - 1)=((F.length - 1:Nat):Int):=by rw [zw _ (by omega)];omega
 have HS:=zh (zbQ h F.length 0 (F.length - 1) rfl hl (by omega) (by omega))
 have hc:=h.cell;have hi:=zmC p _ w hc;have FS:=zdO p _ w hc;have hf:=zpP;have kw:=zmo;clear h;have HK:=zh (zn hl hk);have HM:=zh (show F.length - 1+1=F.length by omega)
 obtain ⟨n,hn⟩:∃n,n=F.length:=⟨_,rfl⟩;obtain ⟨m,hm⟩:∃m,m=F.length - 1:=⟨_,rfl⟩;rw [← hm,← hn] at s1 HS;rw [← hn] at hc hi FS;have HE:=zh (zn hn hm);clear hn hm hl hk Aj;go_enter Tryz.func140,Tryz.ntmps140;go_wp2_with fail;refine (zgw (some ⟨g,0,none⟩) n c w).mono ?_;rintro e w1 ⟨rfl,rfl⟩;go_wp2_with fail;refine HS.out.mono ?_;clear HS hc hi FS;rintro e w2 ⟨rfl,F2,Hr,O1,Cy⟩;have CC:=zdU Hr;have HD:=zh (znZ O1 0 m (by have:=HK.out.1;omega) (by have:=HE.out.2;omega) (by have:=HK.out.2;omega))
 have Hi:=zh (zn Hr (zn O1 Cy));clear Hr O1 Cy CC;go_wp2_with fail;refine HD.out.mono ?_;clear HD;rintro e w3 ⟨⟨vv,rfl⟩,F3,Xm,Fi,AM⟩;have Gc:=zdU Xm;have CC:=zdU Hi.out.1;have Ac:F3.length=F.length:=Gc.trans CC;have KM:F3≠ []:=by
  have:=HK.out.1;intro e;rw [e] at Ac;simp at Ac
  omega
 have hx:F3[F3.length - 1]? =some (F3.getLast KM):=by rw [← List.getLast?_eq_getElem?,List.getLast?_eq_some_getLast KM]
 have HP:=zh (zlC Fi _ hx (by have:=HK.out.2;omega))
 have HX:=zh (List.dropLast_concat_getLast KM);have Jj:=zpe p w3;have yK:=fnPop;have Ir:=zh (zn Xm (zn Fi AM));generalize F3.getLast KM=x at *;clear Xm Fi AM Gc CC Ac hx KM;go_wp2_with fail;refine HP.out.mono ?_;rintro e w4 ⟨rfl,jV,DH⟩;have UH:=zh (zn jV DH);clear jV DH;go_wp2_with fail;go_ret;refine ⟨x,F3.dropLast,rfl, ?_,UH.out.1,(zD.turn Hi.out.2.2 (.inr rfl)).trans ((zD.turn Ir.out.2.2 (.inr rfl)).trans (zD.turn UH.out.2 (.inl rfl)) (fun j hj=> .inl hj)) (fun j hj=> .inl hj)⟩;have h1:=HX.out;have h2:(x::F3.dropLast).Perm F3:=by
  rw [← h1]
  simpa using (List.perm_append_singleton x F3.dropLast).symm
 exact h2.trans (Ir.out.1.trans Hi.out.1)
end
section
open Go.RowKit
theorem zex {w w':World} {B:Nat} {e:TypeId} {k:Nat} {v:Value} {n:Nat} {xs:List Value} (h:w.ownsRow B e k v n xs) (hs:∀g,v.ownBlock=some g→w'.heap[g]? =w.heap[g]?):w'.ownsRow B e k v n xs:=by
 refine ⟨h.1, ?_⟩;rcases h.2 with h2 | ⟨g,cap,cur,hv,hg,hh,r⟩
 ·exact .inl h2
 ·exact .inr ⟨g,cap,cur,hv,hg,(hs g (by rw [hv];rfl)).trans hh,r⟩
theorem zbj.heap {w w':World} {p:Nat} {v mv:Value} {F:List Nat} (h:zbj w p v mv F) (hp:w'.heap[p]? =w.heap[p]?) (hs:∀g,v.ownBlock=some g→w'.heap[g]? =w.heap[g]?):zbj w' p v mv F:=
 ⟨hp.trans h.1,zex h.2 hs⟩
theorem zbj.row_lt {w:World} {p:Nat} {v mv:Value} {F:List Nat} (h:zbj w p v mv F) {g:Nat} (hg:v.ownBlock=some g):g < w.heap.size:=by
 rcases h.2.2 with ⟨rfl,_⟩ | ⟨g',cap,cur,rfl,_,hh,_⟩
 ·cases hg
 ·cases hg
  exact (zg hh).1
theorem zbj.plt {w:World} {p:Nat} {v mv:Value} {F:List Nat} (h:zbj w p v mv F):p < w.heap.size:=(zg h.1).1
theorem zbj.apart {w:World} {p:Nat} {v mv:Value} {F:List Nat} (h:zbj w p v mv F) {m:Nat} {L:List Uc} (hm:zbT w m L):m≠p∧v.ownBlock≠some m:=by
 obtain ⟨es,clock,h1,-⟩:=hm;refine ⟨fun e=> ?_,fun e=> ?_⟩
 ·rw [e,h.1] at h1;cases h1
 ·rcases h.2.2 with ⟨rfl,_⟩ | ⟨g',cap,cur,rfl,_,hh,_⟩
  ·cases e
  ·cases e
   rw [hh] at h1;cases h1
theorem zD.more {D D':Nat→Prop} {A B:World} (h:zD D A B) (hd:∀j,D j→D' j):zD D' A B:=⟨h.os,h.tape,h.output,h.size,fun j hj hn=> h.block j hj (fun e=> hn (hd j e))⟩
def zeJ (w:World) (om:Option Nat) (L:List Uc):Prop:=(om=none∧L= [])∨∃m,om=some m∧zbT w m L
theorem zeJ.look {w:World} {om:Option Nat} {L:List Uc} (h:zeJ w om L) {s:Nat} (hs:s < 4294967296):(Instr.lookup 112 (.map om) (.int .u32 (s:Int)) false).run Tryz.prog w= .ok (.int .i64 (zan L s:Nat)) w:=by
 rcases h with ⟨rfl,rfl⟩ | ⟨m,rfl,h⟩
 ·exact zmP hs w
 ·exact h.look hs
theorem zeJ.heap {w w':World} {om:Option Nat} {L:List Uc} (h:zeJ w om L) (hs:∀m,om=some m→w'.heap[m]? =w.heap[m]?):zeJ w' om L:=by
 rcases h with h | ⟨m,rfl,h⟩
 ·exact .inl h
 ·exact .inr ⟨m,rfl,h.heap (hs m rfl)⟩
theorem zeJ.lt {w:World} {om:Option Nat} {L:List Uc} (h:zeJ w om L) {m:Nat} (hm:om=some m):m < w.heap.size:=by
 rcases h with ⟨rfl,-⟩ | ⟨m',rfl,h⟩
 ·cases hm
 ·cases hm;exact h.lt
structure zbc (w:World) (p:Nat) (F:List Nat) (D:Nat→Prop):Prop where
 has:∃(F0:List Nat) (v:Value) (om:Option Nat) (L:List Uc),F0.Perm F∧zbj w p v (.map om) F0∧zeJ w om L∧(∀j,D j↔j=p∨v.ownBlock=some j∨om=some j)∧∀x,zan L x=if x ∈ F then 1 else 0
 nodup:F.Nodup
 ok:∀x ∈ F,0 < x∧x < 4294967296
theorem zbc.kept {w w':World} {p:Nat} {F:List Nat} {D:Nat→Prop} (h:zbc w p F D) (hk:zbD D w w'):zbc w' p F D:=by
 obtain ⟨F0,v,om,L,h1,h2,h3,h4,h5⟩:=h.has;exact ⟨⟨F0,v,om,L,h1,h2.heap (hk.block _ ((h4 _).2 (.inl rfl))) (fun g hg=> hk.block _ ((h4 _).2 (.inr (.inl hg)))),h3.heap (fun m hm=> hk.block _ ((h4 _).2 (.inr (.inr hm)))),h4,h5⟩,h.nodup,h.ok⟩
theorem zbc.lt {w:World} {p:Nat} {F:List Nat} {D:Nat→Prop} (h:zbc w p F D):∀j,D j→j < w.heap.size:=by
 obtain ⟨F0,v,om,L,h1,h2,h3,h4,h5⟩:=h.has;intro j hj;rcases (h4 j).1 hj with rfl | hj | hj
 ·exact h2.plt
 ·exact h2.row_lt hj
 ·exact h3.lt hj
theorem zbj.mapped {w:World} {p:Nat} {v mv:Value} {F:List Nat} (h:zbj w p v mv F):
 zbj ((w.alloc (.map #[] 0)).setCell ⟨p,1,none⟩ (.map (some w.heap.size))) p v (.map (some w.heap.size)) F∧zbT ((w.alloc (.map #[] 0)).setCell ⟨p,1,none⟩ (.map (some w.heap.size))) w.heap.size []∧w.grownBy ((w.alloc (.map #[] 0)).setCell ⟨p,1,none⟩ (.map (some w.heap.size))) (some p):=by
 have AQ:=h.plt;have Aj:=h.ne;have G2:(w.alloc (.map #[] 0)).heap[p]? =some (.cells #[v,mv] 159 (0,0)):=by rw [Below.heap_alloc _ _ _ AQ];exact h.1
 refine ⟨⟨heap_setCell_same _ p 1 #[v,mv] 159 _ G2,zex h.2 fun g hg=> ?_⟩,(zbT.made w).heap ?_,⟨rfl,rfl,rfl,by rw [World.size_setCell];simp,fun j hj hn=> ?_⟩⟩
 ·rw [heap_setCell_other _ ⟨p,1,none⟩ g _ (fun e=> Aj (by rw [hg];exact congrArg some e.symm)),Below.heap_alloc _ _ _ (h.row_lt hg)]
 ·rw [heap_setCell_other _ ⟨p,1,none⟩ w.heap.size _ (by show w.heap.size≠p;omega)]
 ·rw [heap_setCell_other _ ⟨p,1,none⟩ j _ (fun e=> hn (by rw [e])),Below.heap_alloc _ _ _ hj]
theorem zbc.given {w w2 w3:World} {p m b g c:Nat} {F F0 F':List Nat} {D:Nat→Prop} {v:Value} {om:Option Nat} {L:List Uc}
 (hn:F.Nodup) (Fv:∀x ∈ F,0 < x∧x < 4294967296) (Aq:0 < b) (hb:b < 4294967296) (C5:b ∉ F) (TU:F0.Perm F) (hD:∀j,D j↔j=p∨v.ownBlock=some j∨om=some j) (DB:∀j,D j→j < w.heap.size)
 (hL:∀x,zan L x=if x ∈ b::F then 1 else 0) (hm:om=some m∨(om=none∧w.heap.size≤m)) (hM:zbT w2 m L) (hV:zbj w2 p v (.map (some m)) F0) (LU:zD D w w2)
 (hP:F'.Perm (F0++ [b])) (hW:zaI w3 p g c (.map (some m)) F') (hg:v.ownBlock=some g∨w2.heap.size≤g) (Qw:zD (fun j=> j=p∨v.ownBlock=some j) w2 w3):
 ∃D',zbc w3 p (b::F) D'∧zba D w D' w3∧zD D w w3:=by
 have BE:=hV.apart hM;refine ⟨fun j=> j=p∨j=g∨j=m,⟨⟨F', .slice (some ⟨g,0,none⟩) F'.length c,some m,L,hP.trans ((List.perm_append_singleton b F0).trans (TU.cons b)),hW, .inr ⟨m,rfl,hM.heap (Qw.block m hM.lt (by simp only [not_or];exact BE))⟩,fun j=> ?_,hL⟩, ?_, ?_⟩,⟨fun j hj=> ?_,fun j hj=> ?_⟩,LU.trans Qw fun j hj=> .inl ((hD j).2 (by rcases hj with h | h;exact .inl h;exact .inr (.inl h)))⟩
 ·simp only [Value.ownBlock,Option.some.injEq]
  constructor
  ·rintro (h | h | h)
   ·exact .inl h
   ·exact .inr (.inl h.symm)
   ·exact .inr (.inr h.symm)
  ·rintro (h | h | h)
   ·exact .inl h
   ·exact .inr (.inl h.symm)
   ·exact .inr (.inr h.symm)
 ·exact List.nodup_cons.2 ⟨C5,hn⟩
 ·intro x hx;rcases List.mem_cons.1 hx with rfl | hx
  ·exact ⟨Aq,hb⟩
  ·exact Fv x hx
 ·rcases hj with rfl | rfl | rfl
  ·exact .inl ((hD j).2 (.inl rfl))
  ·rcases hg with h | h
   ·exact .inl ((hD j).2 (.inr (.inl h)))
   ·have:=LU.size;exact .inr (by omega)
  ·rcases hm with h | ⟨-,h⟩
   ·exact .inl ((hD j).2 (.inr (.inr h)))
   ·exact .inr h
 ·rcases hj with rfl | rfl | rfl
  ·exact (zg hW.1).1
  ·exact hW.glt
  ·exact zt hM.lt Qw.size
theorem zcs:∀(L:List Uc) (s v x:Nat),zan (zbV L s v) x=if x=s then v else zan L x
 | [],s,v,x=> by
   unfold zbV zan
   by_cases h:s=x
   ·simp [h]
   ·rw [if_neg h,if_neg (fun e=> h e.symm)]
    rfl
 | q::L,s,v,x=> by
   have ih:=zcs L s v x;unfold zbV
   by_cases h:q.1=s
   ·rw [if_pos h];unfold zan
    by_cases h2:s=x
    ·simp [h2]
    ·rw [if_neg h2,if_neg (fun e=> h2 e.symm),if_neg (fun e=> h2 (h.symm.trans e))]
   ·rw [if_neg h];simp only [zan];rw [ih]
    by_cases h2:q.1=x
    ·rw [if_pos h2,if_neg (fun e=> h (h2.trans e)),if_pos h2]
    ·rw [if_neg h2,if_neg h2]
theorem zgH:∀{L:List Uc} (s x:Nat),(L.map (·.1)).Nodup→zan (zet L s) x=if x=s then 0 else zan L x
 | [],s,x,_=> by simp [zet,zan]
 | q ::L,s,x,hn=> by
   simp only [List.map_cons,List.nodup_cons] at hn;have ih:=zgH (L:=L) s x hn.2;unfold zet
   by_cases h:q.1=s
   ·rw [if_pos h]
    by_cases h2:x=s
    ·rw [if_pos h2];exact zfe fun p hp e=> hn.1 (List.mem_map.2 ⟨p,hp,(e.trans h2).trans h.symm⟩)
    ·rw [if_neg h2];unfold zan;rw [if_neg (fun e=> h2 (e.symm.trans h))]
     cases L <;> rfl
   ·rw [if_neg h];simp only [zan];rw [ih]
    by_cases h2:q.1=x
    ·rw [if_pos h2,if_neg (fun e=> h (h2.trans e)),if_pos h2]
    ·rw [if_neg h2,if_neg h2]
theorem zjX {w:World} {p:Nat} {F:List Nat} {D:Nat→Prop} (h:zbc w p F D) (b:Nat) (Aq:0 < b) (hb:b < 4294967296) (C5:b ∉ F) (hF:F.length < 100000):
 Calls Tryz.prog 76 #[zv p, .int .u32 (b:Int)] w fun e w'=> e= .returned (.bool true)∧∃D',zbc w' p (b::F) D'∧zba D w D' w'∧zD D w w':=by
 have hlt:=h.lt;obtain ⟨F0,v,om,L,h1,h2,h3,h4,h5⟩:=h.has;have hn:=h.nodup;have Fv:=h.ok;have h0:((b:Int)==0)=false:=by rw [beq_eq_false_iff_ne];omega
 have c1:w.cell? ⟨p,1,none⟩=some (.map om):=by simp [World.cell?,h2.1]
 have f1:w.frozen? ⟨p,1,none⟩=false:=by simp [World.frozen?,h2.1]
 have AQ:=h2.plt;have Dm:=h1.length_eq;have hl:=h3.look hb;rw [h5,if_neg C5] at hl;have hL:∀x,zan (zbV L b 1) x=if x ∈ b::F then 1 else 0:=fun x=> by
  rw [zcs,h5]
  by_cases e:x=b
  ·simp [e]
  ·simp [e]
 clear h;unfold zv;rcases h3 with ⟨rfl,rfl⟩ | ⟨m,rfl,hM⟩
 ·have he:=zjS w;have Tw:=@run_makeMap Tryz.prog;obtain ⟨QL,L6,NA⟩:=h2.mapped;have f2:(w.alloc (.map #[] 0)).frozen? ⟨p,1,none⟩=false:=by rw [World.frozen?_of_block (w:=w)];exact f1;exact Below.heap_alloc _ _ _ AQ
  have c2:(w.alloc (.map #[] 0)).cell? ⟨p,1,none⟩=some (.map none):=by rw [World.cell?_of_block (w:=w)];exact c1;exact Below.heap_alloc _ _ _ AQ
  obtain ⟨w2,Cc,CE,hg,AR⟩:=L6.put (s:=b) (v:=1) hb (by omega)
  have Ht:=QL.apart L6;have O0:zbj w2 p v (.map (some w.heap.size)) F0:=QL.heap (hg.block p QL.plt (fun e=> Ht.1 (Option.some.inj e).symm)) (fun g Ic=> hg.block g (QL.row_lt Ic) (fun e=> Ht.2 (Ic.trans e)));have LU:zD D w w2:=(zD.turn NA ((h4 p).2 (.inl rfl))).trans (zD.turn (D:=fun j=> j=w.heap.size) hg rfl) (fun j hj=> .inr (by rw [hj];exact zl))
  have cA:((w.alloc (.map #[] 0)).setCell ⟨p,1,none⟩ (.map (some w.heap.size))).cell? ⟨p,1,none⟩=some (.map (some w.heap.size)):=by simp [World.cell?,QL.1]
  rw [World.setCell_alloc_past (w:=w) (.map #[] 0) p 1 (.map (some w.heap.size)) AQ] at Cc cA;have HP:=zh (zew O0 b (by omega))
  have AJ:=zh (fun (w3:World) g c F'=> zbc.given (w3:=w3) (g:=g) (c:=c) (F':=F') hn Fv Aq hb C5 h1 h4 hlt hL (.inr ⟨rfl,zl⟩) CE O0 LU);clear h2 QL L6 CE hg NA LU O0 Ht hn Fv C5 h1 h4 h5 hlt hL AR Dm;go_enter Tryz.func76,Tryz.ntmps76
  go_wp2_with (at_mapUpdate;refine zab rfl _ _ _ _ rfl Cc ?_)
  refine HP.out.mono ?_;clear HP;rintro e w3 ⟨rfl,⟨g,c,F',hP,hW,hg⟩,hO⟩;have HH:=zh (AJ.out w3 g c F' hP hW hg hO);clear hP hW hg hO;go_wp2_with fail;go_ret;exact ⟨rfl,HH.out⟩
 ·have he:=zhM m w;obtain ⟨w2,Cc,CE,hg,AR⟩:=hM.put (s:=b) (v:=1) hb (by omega)
  have Ht:=h2.apart hM;have O0:zbj w2 p v (.map (some m)) F0:=h2.heap (hg.block p h2.plt (fun e=> Ht.1 (Option.some.inj e).symm)) (fun g Ic=> hg.block g (h2.row_lt Ic) (fun e=> Ht.2 (Ic.trans e)));have LU:zD D w w2:=zD.turn hg ((h4 m).2 (.inr (.inr rfl)));have HP:=zh (zew O0 b (by omega))
  have AJ:=zh (fun (w3:World) g c F'=> zbc.given (w3:=w3) (g:=g) (c:=c) (F':=F') hn Fv Aq hb C5 h1 h4 hlt hL (.inl rfl) CE O0 LU);clear h2 hM CE hg LU O0 Ht hn Fv C5 h1 h4 h5 hlt hL AR Dm;go_enter Tryz.func76,Tryz.ntmps76
  go_wp2_with (at_mapUpdate;refine zab rfl _ _ _ _ rfl Cc ?_)
  refine HP.out.mono ?_;clear HP;rintro e w3 ⟨rfl,⟨g,c,F',hP,hW,hg⟩,hO⟩;have HH:=zh (AJ.out w3 g c F' hP hW hg hO);clear hP hW hg hO;go_wp2_with fail;go_ret;exact ⟨rfl,HH.out⟩
theorem zbc.made (w:World):zbc (w.alloc (.cells #[.slice none 0 0, .map none] 159)) w.heap.size [] (fun j=> j=w.heap.size):=
 ⟨⟨[], .slice none 0 0,none, [],List.Perm.refl _,⟨heap_alloc_new w _,rfl, .inl ⟨rfl,rfl⟩⟩, .inl ⟨rfl,rfl⟩,fun j=> by simp [Value.ownBlock],fun x=> by simp [zan]⟩,List.nodup_nil,by simp⟩
def znG:Nat→List Nat
 | 0=> []
 | n+1=> (n+1)::znG n
theorem zg2:∀{n x:Nat},x ∈ znG n↔0 < x∧x≤n
 | 0,x=> by simp [znG];omega
 | n+1,x=> by simp only [znG,List.mem_cons,zg2 (n:=n)];omega
theorem zkp:∀n,(znG n).length=n
 | 0=> rfl
 | n+1=> by simp [znG,zkp n]
theorem ziW (n:Nat) (w:World) (hn:n≤4096):
 Calls Tryz.prog 39 #[.int .i64 (n:Int)] w fun e w'=> ∃p D,e= .returned (.tuple #[zv p, .int .i64 0])∧zbc w' p (znG n) D∧(∀j,D j→w.heap.size≤j)∧Below w.heap.size w w':=by
 have Ft:¬((n:Int) < 0):=by omega
 have Jn:¬((4096:Int) < (n:Int)):=by omega
 have Rg:=zh (zbc.made w);have Aq:Below w.heap.size w (w.alloc (.cells #[.slice none 0 0, .map none] 159)):=zr.alloc zl _;go_enter Tryz.func39,Tryz.ntmps39;go_wp2_with fail
 go_loopw [15] (fun u15 wr=> ∃(i:Nat) (D:Nat→Prop),i≤n∧u15= .int .i64 i∧zbc wr w.heap.size (znG i) D∧(∀j,D j→w.heap.size≤j)∧Below w.heap.size w wr) (fun u15 _=> n - (intOf u15).toNat)
 case atStart=> exact ⟨0,_,by omega,rfl,Rg.out,fun j hj=> by rw [hj];exact zl,Aq⟩
 case round=>
  obtain ⟨i,D,hi,rfl,hF,hD,FO⟩:=hrel
  by_cases hlt:i < n
  ·have hu:=zkp i;have HG:=zh (zjX hF (i+1) (by omega) (by omega) (fun e=> by have:=zg2.1 e;omega) (by omega))
   have Bb:(i:Int) < (n:Int):=by omega
   have s1:IntKind.i64.wrap ((i:Int)+1)=((i+1:Nat):Int):=by rw [zw _ (by omega)];omega
   have s2:IntKind.u32.wrap ((i+1:Nat):Int)=((i+1:Nat):Int):=by simp [IntKind.wrap,IntKind.signed,IntKind.bits];omega
   have HD:=zh (zn hF.lt (zn hD FO));unfold zv at HG;clear hF hD hu;go_wp2_with fail;refine HG.out.mono ?_;rintro e w2 ⟨rfl,D2,JA,Cy,A5⟩;have qI:=zh JA;have HR:Hid ((∀j,D2 j→w.heap.size≤j)∧Below w.heap.size w w2):=zh ⟨fun j hj=> by
        rcases Cy.new j hj with h | h
        ·exact HD.out.2.1 j h
        ·have:=HD.out.2.2.size;omega,⟨A5.os.trans HD.out.2.2.os,A5.tape.trans HD.out.2.2.tape,A5.output.trans HD.out.2.2.output,zs HD.out.2.2.size A5.size,fun j hj=> (A5.block j (by have:=HD.out.2.2.size;omega) (fun e=> by have:=HD.out.2.1 j e;omega)).trans (HD.out.2.2.block j hj)⟩⟩
   clear JA Cy A5;go_wp2_with fail
   go_roundw
   case rel=> exact ⟨i+1,D2,by omega,by go_num,qI.out,HR.out.1,HR.out.2⟩
   case measure=> simp [intOf];omega
  ·obtain rfl:n=i:=by omega
   have HH:=zh (zn hF (zn hD FO));clear hF hD FO;go_wp2_with fail;go_ret2;exact ⟨_,D,rfl,HH.out.1,HH.out.2.1,HH.out.2.2⟩
theorem zbc.taken {w w2 w3:World} {p m x g c:Nat} {F F':List Nat} {D:Nat→Prop} {om:Option Nat} {L:List Uc}
 (h:zbc w p F D) (hx:(x::F').Perm F) (hD:∀j,D j↔j=p∨j=g∨om=some j) (aK:om=some m) (hL:∀y,zan L y=if y ∈ F then 1 else 0) (hW:zaI w2 p g c (.map om) F') (hM:zbT w2 m L) (EK:zbT w3 m (zet L x)) (Qw:w2.grownBy w3 (some m)):
 zbc w3 p (F.erase x) D:=by
 subst aK;have Qd:x ∈ F:=hx.subset (List.mem_cons_self);have BE:=(show zbj w2 p (.slice (some ⟨g,0,none⟩) F'.length c) (.map (some m)) F' from hW).apart hM;have hV:zbj w3 p (.slice (some ⟨g,0,none⟩) F'.length c) (.map (some m)) F':=(show zbj w2 p (.slice (some ⟨g,0,none⟩) F'.length c) (.map (some m)) F' from hW).heap (Qw.block p (zg hW.1).1 (fun e=> BE.1 (Option.some.inj e).symm)) (fun j hj=> Qw.block j (by cases hj;exact hW.glt) (fun e=> BE.2 (hj.trans e)))
 refine ⟨⟨F', .slice (some ⟨g,0,none⟩) F'.length c,some m,zet L x, ?_,hV, .inr ⟨m,rfl,EK⟩,fun j=> ?_,fun y=> ?_⟩,h.nodup.erase x,fun y hy=> h.ok y (List.mem_of_mem_erase hy)⟩
 ·exact ((hx.symm.erase x).trans (by rw [List.erase_cons_head])).symm
 ·rw [hD];simp only [Value.ownBlock,Option.some.injEq]
  constructor
  ·rintro (h | h | h)
   ·exact .inl h
   ·exact .inr (.inl h.symm)
   ·exact .inr (.inr h)
  ·rintro (h | h | h)
   ·exact .inl h
   ·exact .inr (.inl h.symm)
   ·exact .inr (.inr h)
 ·rw [zgH x y hM.nodup,hL];simp only [h.nodup.mem_erase_iff]
  by_cases e:y=x
  ·simp [e]
  ·simp [e]
theorem zgU {w:World} {p:Nat} {F:List Nat} {D:Nat→Prop} (h:zbc w p F D) (Aj:F≠ []) (hF:F.length < 100000):
 Calls Tryz.prog 101 #[zv p] w fun e w'=> ∃x:Nat,e= .returned (.tuple #[.int .u32 (x:Int), .bool true])∧x ∈ F∧zbc w' p (F.erase x) D∧zD D w w':=by
 have HH:=zh h;obtain ⟨F0,v,om,L,h1,h2,h3,h4,h5⟩:=h.has;have Ac:=h1.length_eq;have KL:F0≠ []:=fun e=> Aj (by rw [e] at h1;exact List.nil_perm.1 h1)
 obtain ⟨g,c,rfl,hW⟩:=h2.row KL;obtain ⟨m,rfl,hM⟩:∃m,om=some m∧zbT w m L:=by
  rcases h3 with ⟨rfl,rfl⟩ | h
  ·obtain ⟨x,hx⟩:=List.exists_mem_of_ne_nil _ Aj;have:=h5 x;rw [if_pos hx] at this;simp [zan] at this
  ·exact h
 have BP:=List.length_pos_iff.2 KL;have c0:=hW.cell;have c1:w.cell? ⟨p,1,none⟩=some (.map (some m)):=by simp [World.cell?,hW.1]
 have z0:((F0.length:Int)==0)=false:=by rw [beq_eq_false_iff_ne];omega
 have z1:¬F0= []:=KL;have HP:=zh (zi0 hW KL (by omega))
 have BE:=h2.apart hM;have HK:=zh (zn h1 (zn h4 (zn h5 (zn hM BE))));unfold zv;clear h h1 h2 h4 h5 hM hW BE h3 Ac Aj BP;generalize F0.length=n at *;go_enter Tryz.func101,Tryz.ntmps101;go_wp2_with fail;refine HP.out.mono ?_;clear HP c0;rintro e w2 ⟨x,F',rfl,hP,O1,hO⟩;obtain ⟨h1,h4,h5,hM,BE⟩:=HK.out;have CE:zbT w2 m L:=hM.heap (hO.block m hM.lt (by
  rintro (e | e)
  ·exact BE.1 e
  ·exact BE.2 (by rw [e];rfl)))
 have c2:w2.cell? ⟨p,1,none⟩=some (.map (some m)):=by simp [World.cell?,O1.1]
 have Qd:x ∈ F:=h1.subset (hP.subset List.mem_cons_self);obtain ⟨w3,Pk,EK,AM,Jq⟩:=CE.del (s:=x) (HH.out.ok x Qd).2 4;have hD:∀j,D j↔j=p∨j=g∨some m=some j:=fun j=> by
  rw [h4 j];simp only [Value.ownBlock,Option.some.injEq]
  constructor
  ·rintro (h | h | h)
   ·exact .inl h
   ·exact .inr (.inl h.symm)
   ·exact .inr (.inr h)
  ·rintro (h | h | h)
   ·exact .inl h
   ·exact .inr (.inl h.symm)
   ·exact .inr (.inr h)
 have RN:=zbc.taken HH.out (hP.trans h1) hD rfl h5 O1 CE EK AM;have jF:zD D w w3:=(hO.more fun j hj=> (hD j).2 (hj.elim .inl fun h=> .inr (.inl h))).trans (zD.turn AM ((hD m).2 (.inr (.inr rfl)))) (fun _ h=> .inl h);have AJ:=zh (zn Qd (zn RN jF));have has:=zl0 (x:Int);clear h1 h4 h5 hM BE CE hP O1 hO EK AM Jq RN jF Qd hD
 go_wp2_with ((refine zcl rfl _ _ _ _ rfl Pk ?_))
 go_ret2;exact ⟨x,rfl,AJ.out.1,AJ.out.2.1,AJ.out.2.2⟩
end
end Go.Proofs.YtfldlfladcfggaaGreat
