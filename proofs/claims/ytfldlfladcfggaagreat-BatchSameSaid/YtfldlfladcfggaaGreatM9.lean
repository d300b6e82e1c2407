/- Lemmas of the walks, merged and pressed by press.py. Conditions: those of each theorem. -/
import Derived.Test.YtfldlfladcfggaaGreatM7
import Derived.Test.YtfldlfladcfggaaGreatM8
set_option maxRecDepth 100000
set_option maxHeartbeats 64000000
set_option linter.all false
namespace Go.Proofs.YtfldlfladcfggaaGreat
section
open Go.RowKit Go.Shelf
theorem zq7 {w:World} {base:Nat} {e:TypeId} {size n:Nat} {v:Value} {xs:List Value} {row:Option Nat} (h:w.ownsRow base e size v n xs)
 (hr:∀r,row=some r→∀arr t p,w.heap[r]? =some (.cells arr t p)→t≠e):v.ownBlock=none∨v.ownBlock≠row:=by
 rcases h.2 with ⟨rfl,_⟩ | ⟨g,cap,cur,rfl,_,hg,_⟩
 ·exact .inl rfl
 ·refine .inr fun e1=> ?_;exact hr g e1.symm _ _ _ hg rfl
theorem zre.turned {w w':World} {B:Nat} {o:PO} {dv mv:Value} {row:Option Nat} (h:zre w B o dv mv) (hg:w.grownBy w' row) (hB:B≤w.heap.size)
 (hr:∀r,row=some r→B≤r∧∀arr t p,w.heap[r]? =some (.cells arr t p)→t≠5∧t≠3∧t≠28):zre w' B o dv mv:=by
 rcases h with ⟨h1,h2⟩ | ⟨w0,h0,hb,hv⟩
 ·exact .inl ⟨h1.kept hg (zq7 h1 fun r e arr t p hh=> ((hr r e).2 arr t p hh).1),h2.kept hg (zq7 h2 fun r e arr t p hh=> ((hr r e).2 arr t p hh).2.1)⟩
 ·exact .inr ⟨w0,h0,hb.grown hg hB (fun k e=> (hr k e).1),hv⟩
theorem z7.turned {w w':World} {B:Nat} {v:Value} {l:List PO} {row:Option Nat} (h:z7 w B v l) (hg:w.grownBy w' row) (hB:B≤w.heap.size)
 (hr:∀r,row=some r→B≤r∧∀arr t p,w.heap[r]? =some (.cells arr t p)→t≠5∧t≠3∧t≠28):z7 w' B v l:=by
 obtain ⟨ps,h1,h2,h3⟩:=h;exact ⟨ps,h1,h2.kept hg (zq7 h2 fun r e arr t p hh=> ((hr r e).2 arr t p hh).2.2),fun i o p ho hp=> (h3 i o p ho hp).turned hg hB hr⟩
def Kq (base s:Nat) (u:Value) (W W':World):Prop:=KeepsFrom base W W'∧KpA s (s+1+1+1) u W W'
theorem Kq.trans {base s:Nat} {u:Value} {X Y Z:World} (h:Kq base s u X Y) (k:Kq base s u Y Z):Kq base s u X Z:=⟨h.1.trans k.1,h.2.trans k.2⟩
theorem Kq.below {base s:Nat} {u:Value} {W W':World} (h:Below W.heap.size W W') (hs:s≤W.heap.size):Kq base s u W W':=
 ⟨⟨h.size,fun k o _ hk _=> by rw [h.block k (zg hk).1];exact hk⟩,h.mono hs,fun c=> by
  have hlt:=zb _ _ c;rw [h.cell (p:=⟨s+1+1+1,0,none⟩) hlt];exact c⟩
def Sq (s:Nat) (w:World) (u:Value) (out:List PO) (S:List (Int × Int)) (W:World):Prop:=
 ∃v,Boxed W s 22 v∧z7 W s v out∧zlp W (s+1) S∧Boxed W (s+1+1) 64 (.map (some (s+1)))∧Boxed W (s+1+1+1) 22 u∧Below s w W∧s≤W.heap.size
theorem Sq.below {s:Nat} {w W W':World} {u:Value} {out:List PO} {S:List (Int × Int)} (h:Sq s w u out S W) (hb:Below W.heap.size W W'):Sq s w u out S W':=by
 obtain ⟨v,h1,h2,h3,h4,h5,h6,h7⟩:=h;exact ⟨v,(hb.block _ h1.lt).trans h1,h2.stays hb zl h7,h3.heap (hb.block _ h3.2.lt),(hb.block _ h4.lt).trans h4,(hb.block _ h5.lt).trans h5,h6.trans (hb.mono h7),zs h7 hb.size⟩
theorem Sq.own {s:Nat} {w:World} {u:Value} {α:Type} (f:α→List PO) (g:α→List (Int × Int)) {base:Nat} (hb:s+4≤base):OwnFrom base (fun x=> Sq s w u (f x) (g x)):=by
 intro x W W' row ⟨v,h1,h2,h3,h4,h5,h6,h7⟩ hg hr;have Aj:∀B,B < base→some B≠row:=fun B hB e=> by have:=(hr B e.symm).1;omega
 refine ⟨v,h1.kept hg (Aj _ (by omega)),h2.turned hg h7 (fun r e=> ⟨by have:=(hr r e).1;omega,fun arr t p hh=> ?_⟩),h3.kept hg (Aj _ (by omega)),h4.kept hg (Aj _ (by omega)),h5.kept hg (Aj _ (by omega)),h6.grown hg h7 (fun k e=> by have:=(hr k e).1;omega),zs h7 hg.size⟩
 obtain ⟨_,o,ho,hc⟩:=hr r e;rw [ho] at hh
 cases hh
 cases hc
theorem Sq.turn {s:Nat} {w W W':World} {u:Value} {out:List PO} {S S':List (Int × Int)} (h:Sq s w u out S W) (hg:W.grownBy W' (some (s+1))) (hS:zlp W' (s+1) S'):Sq s w u out S' W':=by
 obtain ⟨v,h1,h2,h3,h4,h5,h6,h7⟩:=h;refine ⟨v,h1.kept hg (fun e=> by have:=Option.some.inj e;omega),h2.turned hg h7 (fun r e=> ⟨by cases e;omega,fun arr t p hh=> ?_⟩),hS,h4.kept hg (fun e=> by have:=Option.some.inj e;omega),h5.kept hg (fun e=> by have:=Option.some.inj e;omega),h6.grown hg h7 (fun k e=> by cases e;omega),zs h7 hg.size⟩
 cases e
 obtain ⟨es,clock,hm⟩:=h3.obj;rw [hm] at hh
 cases hh
theorem Kq.turn {base s:Nat} {u:Value} {W W':World} (hg:W.grownBy W' (some (s+1))) (hs:s≤W.heap.size) (hb:s+1 < base):Kq base s u W W':=
 ⟨KeepsFrom.of_grownBy hg (fun j e=> by cases e;exact hb),(Below.refl s W).grown hg hs (fun k e=> by cases e;omega),fun c=> hg.cell c (fun e=> by have:=Option.some.inj e;simp only at this;omega)⟩
theorem Sq.push {base s:Nat} {w W:World} {u:Value} {out:List PO} {S:List (Int × Int)} (h:Sq s w u out S W) (o:PO) {da ma:Option Addr} {dc mc:Nat} (hv:zre W s o (.slice da o.d.length dc) (.slice ma o.m.length mc)) (hl:out.length≤1000000000):
 ∃ v a' c' w1,Boxed W s 22 v∧(Builtin.append_ #[22,22] 22 #[v, .slice (some ⟨W.heap.size,0,none⟩) 1 1]).run Tryz.prog (W.alloc (.cells #[.int .i64 o.k, .int .i64 o.v, .int .i64 o.i, .int .i64 o.b, .int .i64 o.n, .int .u64 o.pt, .slice da o.d.length dc, .slice ma o.m.length mc] 28))= .ok (.slice a' (out.length+1) c') w1∧
   Boxed w1 s 22 v∧Sq s w u (out++ [o]) S (w1.setCell ⟨s,0,none⟩ (.slice a' (out.length+1) c'))∧Kq base s u W (w1.setCell ⟨s,0,none⟩ (.slice a' (out.length+1) c')):=by
 obtain ⟨v,h1,h2,h3,h4,h5,h6,h7⟩:=h;obtain ⟨v',w1,hr,ho,hg⟩:=h2.push o hv hl h7;obtain ⟨a',c',e',-,-⟩:=ho.ops;rw [show (out++ [o]).length=out.length+1 by simp] at e'
 subst e';obtain ⟨ps,q1,q2,q3⟩:=h2;have Jn:some s≠v.ownBlock:=h1.not_row (by decide) q2
 have BH:some (s+1+1)≠v.ownBlock:=h4.not_row (by decide) q2
 have PM:some (s+1+1+1)≠v.ownBlock:=h5.not_row (by decide) q2
 have PR:some (s+1)≠v.ownBlock:=by
  obtain ⟨es,clock,hm⟩:=h3.obj;rcases q2.2 with ⟨rfl,_⟩ | ⟨g,cap,cur,rfl,_,hh,_⟩
  ·intro e;cases e
  ·intro e;simp only [Value.ownBlock,Option.some.injEq] at e;rw [e] at hm;rw [hm] at hh
   cases hh
 have Cx:∀k,v.ownBlock=some k→s≤k:=by
  intro k e;rcases q2.2 with ⟨rfl,_⟩ | ⟨g,cap,cur,rfl,hb,hh,_⟩
  ·cases e
  ·simp only [Value.ownBlock,Option.some.injEq] at e
   omega
 have b1:=h1.kept hg Jn;have g2:w1.grownBy (w1.setCell ⟨s,0,none⟩ (.slice a' (out.length+1) c')) (some s):=grownBy_setCell' w1 s _;have C6:s≤w1.heap.size:=zs h7 hg.size;have e87:∀r,some s=some r→s≤r∧∀arr t p,w1.heap[r]? =some (.cells arr t p)→t≠5∧t≠3∧t≠28:=fun r e=> by
  cases e
  refine ⟨zl,fun arr t p hh=> ?_⟩;have hb:w1.heap[s]? =_:=b1;rw [hb] at hh
  cases hh
  decide
 have Gs:Below s W w1:=(Below.refl s W).grown hg h7 Cx;have bk:Below s w1 (w1.setCell ⟨s,0,none⟩ (.slice a' (out.length+1) c')):=(Below.refl s w1).setCell (p:=⟨s,0,none⟩) zl _;refine ⟨v,a',c',w1,h1,hr,b1,⟨_,b1.set _,ho.turned g2 C6 e87,(h3.kept hg PR).kept g2 (fun e=> by have:=Option.some.inj e;omega),(h4.kept hg BH).other (by omega) _,(h5.kept hg PM).other (by omega) _,h6.trans (Gs.trans bk),by simpa using C6⟩,Kq.trans (Y:=w1) ⟨⟨hg.size,fun k ob hk hh hc=> ?_⟩,Gs,fun c=> hg.cell c PM⟩ ⟨(KeepsOthers.setCell _ _ _).from _,bk,fun c=> g2.cell c (fun e=> by have:=Option.some.inj e;simp only at this;omega)⟩⟩
 refine (hg.block k (zg hh).1 fun e=> ?_).trans hh;rcases q2.2 with ⟨rfl,_⟩ | ⟨g,cap,cur,rfl,_,eW,_⟩
 ·cases e
 ·simp only [Value.ownBlock,Option.some.injEq] at e;rw [e,eW] at hh
  cases hh
  cases hc
theorem Sq.mapcell {s:Nat} {w W:World} {u:Value} {out:List PO} {S:List (Int × Int)} (h:Sq s w u out S W):W.cell? ⟨s+1+1,0,none⟩=some (.map (some (s+1))):=by
 obtain ⟨v,h1,h2,h3,h4,h5,h6,h7⟩:=h;exact h4.cell
theorem Sq.spots {s:Nat} {w W:World} {u:Value} {out:List PO} {S:List (Int × Int)} (h:Sq s w u out S W):zlp W (s+1) S:=by
 obtain ⟨v,h1,h2,h3,h4,h5,h6,h7⟩:=h;exact h3
theorem Sq.low {s:Nat} {w W:World} {u:Value} {out:List PO} {S:List (Int × Int)} (h:Sq s w u out S W):s≤W.heap.size∧Below s w W:=by
 obtain ⟨v,h1,h2,h3,h4,h5,h6,h7⟩:=h;exact ⟨h7,h6⟩
theorem zf8 {W W':World} {m:Nat} (hg:W.grownBy W' (some m)) (hm:∃es ck,W.heap[m]? =some (.map es ck)) {p:Addr} {v:Value} (h:W.cell? p=some v):W'.cell? p=some v:=by
 refine hg.cell h fun e=> ?_;obtain ⟨es,ck,hm⟩:=hm;have e1:=Option.some.inj e;unfold World.cell? at h;rw [e1,hm] at h;simp at h
theorem zq4.turn {W W':World} {m:Nat} (hg:W.grownBy W' (some m)) (hm:∃es ck,W.heap[m]? =some (.map es ck)) {A:Nat} {k v i b n pt:Int} {dv mv:Value} (h:zq4 W A k v i b n pt dv mv):zq4 W' A k v i b n pt dv mv:=by
 obtain ⟨c0,c1,c2,c3,c4,c5,c6,c7⟩:=h;exact ⟨zf8 hg hm c0,zf8 hg hm c1,zf8 hg hm c2,zf8 hg hm c3,zf8 hg hm c4,zf8 hg hm c5,zf8 hg hm c6,zf8 hg hm c7⟩
theorem Runs.turn {W W':World} {m:Nat} (hg:W.grownBy W' (some m)) (hm:∃es ck,W.heap[m]? =some (.map es ck)) {a:Option Addr} {n:Nat} {l:List (Int × Int)} (h:Runs W a n l):Runs W' a n l:=by
 refine ⟨h.1,fun i r hr=> ?_⟩;obtain ⟨b,o,ha,h1,h2⟩:=h.2 i r hr;exact ⟨b,o,ha,zf8 hg hm h1,zf8 hg hm h2⟩
theorem zpF {F:Fence} {nF:Nat} {P:Program} {w:World} {ops:Array Oper} {rest:List Oper} {o:Oper} {a:Act} {Q:Exit→Act→World→Prop} (Ib:o.guard=none) (x y:Operand) (t:TypeId)
 (ho:o.op= .call {callee:= .builtin .append,args:=#[x,y],argTypes:=#[t,t]}) {v':Value} {w':World}
 (Be:(Builtin.append_ #[t,t] o.type #[a.eval x,a.eval y]).run P w= .ok v' w') (h:wpListIn F nF P ops Q rest (a.put o.dst v') w'):wpListIn F nF P ops Q (o::rest) a w:=by
 refine wpListIn_plain Ib fun K hK=> ?_;unfold Oper.wpIn;refine ⟨by simp [Oper.about,ho,resolve,Target.leads,Sem.run_pure], ?_⟩
 rw [Oper.semAt_plain F _ _ (by rw [ho];intro c Jc;cases Jc)]
 simp [execOp,ho,resolve,invoke,builtin,Be,Result.andThen];exact hK _ _ h
theorem zrg {F:Fence} {nF:Nat} {P:Program} {w:World} {ops:Array Oper} {rest:List Oper} {o:Oper} {a:Act} {Q:Exit→Act→World→Prop} (Ib:o.guard=none) (x:Operand) (t:TypeId)
 (ho:o.op= .call {callee:= .builtin .clear,args:=#[x],argTypes:=#[t]}) {v':Value} {w':World}
 (Be:(Builtin.clear_ #[t] o.type #[a.eval x]).run P w= .ok v' w') (h:wpListIn F nF P ops Q rest (a.put o.dst v') w'):wpListIn F nF P ops Q (o::rest) a w:=by
 refine wpListIn_plain Ib fun K hK=> ?_;unfold Oper.wpIn;refine ⟨by simp [Oper.about,ho,resolve,Target.leads,Sem.run_pure], ?_⟩
 rw [Oper.semAt_plain F _ _ (by rw [ho];intro c Jc;cases Jc)]
 simp [execOp,ho,resolve,invoke,builtin,Be,Result.andThen];exact hK _ _ h
theorem zf7 {F:Fence} {nF:Nat} {P:Program} {w:World} {ops:Array Oper} {rest:List Oper} {o:Oper} {a:Act} {Q:Exit→Act→World→Prop} (Ib:o.guard=none) (m x v:Operand) (t:TypeId)
 (ho:o.op= .mapUpdate t m x v) {w':World} (Be:(Instr.mapUpdate t (a.eval m) (a.eval x) (a.eval v)).run P w= .ok () w') (h:wpListIn F nF P ops Q rest (a.put o.dst undef) w'):wpListIn F nF P ops Q (o::rest) a w:=by
 refine wpListIn_plain Ib fun K hK=> ?_;unfold Oper.wpIn;refine ⟨by simp [Oper.about,ho], ?_⟩
 rw [Oper.semAt_plain F _ _ (by rw [ho];intro c Jc;cases Jc)]
 simp [execOp,ho,Be,Result.andThen];exact hK _ _ h
end
end Go.Proofs.YtfldlfladcfggaaGreat
