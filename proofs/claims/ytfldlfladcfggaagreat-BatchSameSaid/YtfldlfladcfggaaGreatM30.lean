/- Lemmas of the walks, merged and pressed by press.py. Conditions: those of each theorem. -/
import Derived.Test.YtfldlfladcfggaaGreatM12
import Derived.Test.YtfldlfladcfggaaGreatM22
import Derived.Test.YtfldlfladcfggaaGreatM29
import Derived.Test.YtfldlfladcfggaaGreatM28
import Derived.Deep.RegionHeld3
import Derived.Test.YtfldlfladcfggaaGreatM23
import Derived.Test.YtfldlfladcfggaaGreatM20
import Derived.Test.YtfldlfladcfggaaGreatM16
import Derived.Test.YtfldlfladcfggaaGreatM26
import Derived.Shelf.Spec.BitsCarry
import Derived.Deep.CutBlock
set_option maxRecDepth 100000
set_option maxHeartbeats 64000000
set_option linter.all false
namespace Go.Proofs.YtfldlfladcfggaaGreat
section
open Go.RowKit
def zst (o:PO):PO:={o with v:=1}
def zrL (o:PO):Bool:=o.plain56 && (o.k==4 || decide (o.b+o.n≤32))
def zip (l:List Oq):List PO:=(l.map fun z=> zst z.o).filter zrL
theorem zrC (l:List Oq):∀o ∈ zip l,Gd o:=fun o ho=> by
 obtain ⟨h1,h2⟩:=List.mem_filter.1 ho;obtain ⟨z,-,rfl⟩:=List.mem_map.1 h1;unfold zrL at h2;rw [Bool.and_eq_true,Bool.or_eq_true,beq_iff_eq,decide_eq_true_eq] at h2;exact ⟨h2.1,rfl,h2.2⟩
theorem zse (l:List Oq) (z:Oq):zip (l++ [z])=if zrL (zst z.o) then zip l++ [zst z.o] else zip l:=by
 unfold zip;rw [List.map_append,List.filter_append];simp only [List.map_cons,List.map_nil,List.filter_cons,List.filter_nil]
 split <;> simp
theorem zrM (l:List Oq):(zip l).length≤l.length:=by
 unfold zip;exact zs (List.length_filter_le _ _) (by simp)
theorem zsd {l:List Oq} {o:PO} (h:o ∈ zip l):∃z ∈ l,o=zst z.o:=by
 obtain ⟨z,hz,rfl⟩:=List.mem_map.1 (List.mem_filter.1 h).1;exact ⟨z,hz,rfl⟩
theorem zr6 {l l':List Oq} {z:Oq} (h:zip l'=if zrL (zst z.o) then zip l++ [zst z.o] else zip l) (hp:zrL (zst z.o)=false):zip l'=zip l:=by rw [h,hp];rfl
theorem zrN {l l':List Oq} {z:Oq} (h:zip l'=if zrL (zst z.o) then zip l++ [zst z.o] else zip l) (hp:zrL (zst z.o)=true):zip l'=zip l++ [zst z.o]:=by rw [h,hp];rfl
theorem zsm (w:World) {B:Nat} (hB:B≤w.heap.size):z7 (w.alloc (.cells #[.int .i64 1, .int .i64 0, .int .i64 0, .int .i64 0, .int .i64 32, .int .u64 0, .slice none 0 0, .slice none 0 0] 28)) B (.slice (some ⟨w.heap.size,0,none⟩) 1 1) [zrT]:=by
 refine ⟨[(.slice none 0 0, .slice none 0 0)],rfl,⟨rfl, .inr ⟨w.heap.size,1,_,rfl,hB,heap_alloc_new w _,zl,by unfold maxLen;omega,rfl,rfl⟩⟩,fun i o p ho hp=> ?_⟩
 cases i with
 | zero=>
   simp at ho hp;subst ho hp;exact .inl ⟨World.ownsRow_nil _ _ _ _,World.ownsRow_nil _ _ _ _⟩
 | succ i=> simp at ho
theorem zso {w:World} {a:Option Addr} {n:Nat} {l:List Int} (h:Is .i64 w a n l):zM zcm 1 w a n l:=by
 have hl:=h.len;refine ⟨hl,fun i r hr=> ?_⟩;have hi:i < n:=by have:=(zi hr).1;omega
 obtain ⟨b,o,rfl,hc⟩:=h.at (by omega)
 refine ⟨b,o,rfl,fun j x hx=> ?_⟩;have hj:j=0:=by
  have:=(zi hx).1;simp [zcm] at this
  omega
 subst hj;have Q7:x= .int .i64 r:=by simpa [zcm] using hx.symm
 rw [Q7,Nat.mul_one,Nat.add_zero,hc i hi];simp [List.getD,hr]
theorem Ops.op {w:World} {a:Option Addr} {n:Nat} {l:List PO} (h:Ops w a n l) {i:Nat} {o:PO} (ho:l[i]? =some o) (hf:o.d.length≤300∧o.m.length≤100) (hb:o.v≤9223372036854775807∧o.i≤9223372036854775807∧o.b≤9223372036854775807∧o.n≤9223372036854775807) (hp:0≤o.pt∧o.pt < 18446744073709551616):
 ∃b p da dc ma mc,a=some ⟨b,p,none⟩∧(∀j x,(zf4 o (.slice da o.d.length dc) (.slice ma o.m.length mc))[j]? =some x→w.cell? ⟨b,p+i * 8+j,none⟩=some x)∧OpM w o da o.d.length ma o.m.length:=by
 obtain ⟨b,p,dv,mv,ha,hc,da,dc,ma,mc,rfl,rfl,h1,h2⟩:=h.2 i o ho;exact ⟨b,p,da,dc,ma,mc,ha,hc,h1,zso h2,by omega,hb,hp⟩
structure FineO (o:PO):Prop where
 few:o.d.length≤300∧o.m.length≤100
 fit:o.v≤9223372036854775807∧o.i≤9223372036854775807∧o.b≤9223372036854775807∧o.n≤9223372036854775807
 pt:0≤o.pt∧o.pt < 18446744073709551616
theorem zrO {o:PO} (h:zfl o=false):o.d.length≤300∧o.m.length≤100:=by
 unfold zfl at h;rw [Bool.or_eq_false_iff] at h;have h3:=of_decide_eq_false h.1;have h4:=of_decide_eq_false h.2
 omega
theorem zsc {w:World} {l:List Oq} (h:∀z ∈ l,zpD w z) (hg:∀z ∈ l,zfl z.o=false):∀o ∈ zrT::zip l,FineO o:=fun o ho=> by
 rcases List.mem_cons.1 ho with rfl | ho
 ·exact ⟨by decide,by decide,by decide⟩
 ·obtain ⟨z,hz,rfl⟩:=zsd ho;have h1:=h z hz;have h5:=h1.fit;exact ⟨zrO (hg z hz),⟨by show (1:Int)≤_;omega,h5.2.1,h5.2.2.1,h5.2.2.2⟩,h1.pt⟩
end
section
open Go.RowKit
def NoB (w:World) (j:Nat):Prop:=∀z:Int,w.cell? ⟨j,0,none⟩≠some (.int .u8 z)
theorem NoB.row {w:World} {j:Nat} {x:Value} {l:List Value} {t:TypeId} (h:w.heap[j]? =some (.cells (x::l).toArray t (0,0))) (hx:∀z,x≠ .int .u8 z):NoB w j:=fun z e=> by
 rw [cell_of_row w j 0 _ _ _ h,show (x::l).toArray[0]? =some x from rfl] at e;exact hx z (Option.some.inj e)
theorem NoB.map {w:World} {j:Nat} {L:List Uc} (h:zbT w j L):NoB w j:=fun z e=> by
 obtain ⟨es,c,hh,-⟩:=h;simp [World.cell?,hh] at e
theorem NoB.heap {w w':World} {j:Nat} (h:NoB w j) (e:w'.heap[j]? =w.heap[j]?):NoB w' j:=fun z=> by
 rw [zY e];exact h z
theorem zrK:∀{d:Nat} (t:Tr d),0 < zH t→zax t→flatT t≠ []
 | 0,t,h,_,e=> by
   have e':zS t= []:=e;simp [zH,e'] at h
 | d+1,t,h,hk,e=> by
   have e':(zx t).flatMap flatT= []:=e;have h':0 < (zx t).length:=h;obtain ⟨k,FU⟩:=List.exists_mem_of_length_pos h';obtain ⟨h1,-,h3⟩:=hk k FU;exact zrK k (by omega) h3 (List.flatMap_eq_nil_iff.1 e' k FU)
theorem zaF.len {w:World} {ph pt pa:Nat} {l:List En} {F:List Nat} {L:List Uc} {n:Nat} {E:Nat→Prop} (h:zaF w ph pt pa l F L n E):∃r,zaw w pt r l.length:=by
 obtain ⟨S,D,-,h2,-⟩:=h.has;rcases h2.has with ⟨rfl,h9⟩ | ⟨d,q,t,h9,-⟩
 ·exact ⟨_,h9⟩
 ·exact ⟨_,h9⟩
section
variable {w:World} {p:Nat} {h:Ch} {a:StA} {cf:Cfg} {st:PS} {nb k:Nat} {F:List Nat} {L:List Uc} {E:Nat→Prop} {s:Nat} {lv:Value} {xs:List Sh} {ys:List Wh} {D:Nat→Prop} {Q I:Nat→Prop}
theorem zbc.noB {p:Nat} {F:List Nat} {D:Nat→Prop} (h:zbc w p F D) (hF:F≠ []):∀j,D j→NoB w j:=by
 obtain ⟨F0,v,om,L,h1,h2,h3,h4,-⟩:=h.has;have bt:F0≠ []:=fun e=> by rw [e] at h1;exact hF h1.nil_eq.symm
 obtain ⟨x,F1,rfl⟩:=List.exists_cons_of_ne_nil bt;intro j hj;rcases (h4 j).1 hj with rfl | hj | rfl
 ·obtain ⟨g,c,rfl,-⟩:=h2.row bt;exact NoB.row (l:= [.map om]) h2.1 (fun z e=> by cases e)
 ·rcases h2.2.2 with ⟨-,e⟩ | ⟨g,cap,cur,rfl,-,hh,-,-,-,ht⟩
  ·simp at e
  ·simp only [Value.ownBlock,Option.some.injEq] at hj;subst hj;intro z e;have h0:cur[0]? =some (uV x):=by
        have:(cur.toList.take ((x::F1).length * 1))[0]? =some (uV x):=by rw [ht];rfl
        rw [List.getElem?_take_of_lt (by simp)] at this
        simpa using this
   simp [World.cell?,hh,h0,uV] at e
 ·rcases h3 with ⟨e,-⟩ | ⟨m,e,hm⟩
  ·cases e
  ·cases e
   exact NoB.map hm
theorem zX.noB {pa n:Nat} {F:List Nat} {D:Nat→Prop} (h:zX w pa F L n D) (hF:F≠ []):∀j,D j→NoB w j:=by
 obtain ⟨pf,om,s,m,Df,h1,h2,h3,h4,h5,-⟩:=h.has;intro j hj;rcases (h5 j).1 hj with rfl | hj | rfl | rfl
 ·exact NoB.row (l:= [_,_,_,_,_]) h1 (fun z e=> by unfold zv at e;cases e)
 ·exact h2.noB hF j hj
 ·rcases h3 with ⟨e,-⟩ | ⟨m,e,hm⟩
  ·cases e
  ·cases e
   exact NoB.map hm
 ·exact NoB.map h4
theorem StM.bare (H:StM w p h a cf st nb k F L E s (.slice none 0 0) xs ys D Q) (hl:st.l= []) (hF:F≠ []):
 ∃E' Q',StM w p h a cf st nb k F L E' s (.slice none 0 0) xs ys D Q'∧(∀j,Q' j→Q j)∧∀j,Q' j→NoB w j:=by
 obtain ⟨S,B,h1,h2,h3,h4,h5,h6,h7,h8,h9⟩:=H.hist.has;have hE:∀j,j=a.ph∨j=a.pt∨B j→E j:=fun j hj=> (h4 j).2 (by rcases hj with hj | hj | hj <;> simp [hj])
 have AF:zaw w a.pt none 0:=by
  rcases h2.has with ⟨-,h⟩ | ⟨d,q,t,-,-,hR,he⟩
  ·exact h
  ·exact absurd (he.trans hl) (zrK t hR.lo hR.kids)
 have hQ:∀j,(j=p∨(j=a.ph∨j=a.pt∨B j)∨D j)→Q j:=fun j hj=> (H.dom j).2 (hj.imp id (Or.imp (hE j) id));have hT:za5 w (fun _=> False) a.pt st.l:=⟨by rw [hl];exact List.Pairwise.nil,fun _ h=> h.elim,fun h=> h, .inl ⟨hl,AF⟩⟩
 have eR:zaF w a.ph a.pt a.pa st.l F L nb (fun j=> j=a.ph∨j=a.pt∨B j):=⟨fun _=> False,B,h1,hT,h3,fun j=> by simp,fun h=> h,h6,h7,h8,fun _ h=> h.elim⟩
 have hr:=H.room;refine ⟨fun j=> j=a.ph∨j=a.pt∨B j,fun j=> j=p∨(j=a.ph∨j=a.pt∨B j)∨D j,⟨H.box,H.cat.outs (zD.refl _ _) fun j hj=> .inl (hQ j hj),eR,H.hinv,H.disk.outs (fun _ _=> rfl) (zD.refl _ _) fun j hj=> .inl (hQ j hj),fun j=> Iff.rfl,⟨fun hj=> H.ne.1 (hE _ hj),H.ne.2.1,fun j hj=> H.ne.2.2 j (hE j hj)⟩,H.pages,H.room,H.many⟩,hQ, ?_⟩;rintro j (rfl | (rfl | rfl | hj) | hj)
 ·exact NoB.row (l:=_) H.box (fun z e=> by cases e)
 ·exact NoB.row (l:= [_]) h1 (fun z e=> by unfold zv at e;cases e)
 ·exact NoB.row (l:= [_]) AF (fun z e=> by cases e)
 ·exact h3.noB hF j hj
 ·rcases (H.disk.dom j).1 hj with rfl | rfl | hj
  ·exact NoB.row (l:= [_,_,_]) H.disk.box (fun z e=> by cases e)
  ·obtain ⟨x,xs',rfl⟩:∃x xs',xs=x::xs':=List.exists_cons_of_length_pos (by omega)
   intro z e;obtain ⟨cur,hh,-,ht⟩:=H.disk.row.ex;have h0:cur[0]? =some (.slice (some ⟨x.g,0,none⟩) 128 x.c):=by
        have:(cur.toList.take ((x::xs').length * 1))[0]? =some (.slice (some ⟨x.g,0,none⟩) 128 x.c):=by rw [ht];rfl
        rw [List.getElem?_take_of_lt (by simp)] at this
        simpa using this
   simp [World.cell?,hh,h0] at e
  ·cases hj
theorem StW.widen (H:StW w p h a cf st nb k Q) (hc:zaV (fun j=> Q j∨I j) w h st.c) (hd:∀j,Q j→¬I j) (hI:∀j,I j→j < w.heap.size∧NoB w j):StW w p h a cf st nb k (fun j=> Q j∨I j):=by
 obtain ⟨F,L,E,s,lv,xs,ys,D,hM⟩:=H.mem;obtain ⟨S,B,h1,h2,h3,h4,h5,h6,h7,h8,h9⟩:=hM.hist.has;have Wa:∀j,E j→Q j:=fun j hj=> (hM.dom j).2 (.inr (.inl hj));have eQ:∀j,B j→E j:=fun j hj=> (h4 j).2 (.inr (.inr (.inr hj)));have eY:E a.ph:=(h4 _).2 (.inl rfl);have Ew:E a.pt:=(h4 _).2 (.inr (.inl rfl));have Vx:Q p:=(hM.dom p).2 (.inl rfl);have Nd:∀j,D j→Q j:=fun j hj=> (hM.dom j).2 (.inr (.inr hj));have Da:∀x:Sh,znB Q w x→znB (fun j=> Q j∨I j) w x:=fun x hx=> ⟨hx.bs,hx.cap,fun hj=> hj.elim hx.far fun hi=> by
  obtain ⟨b,o,c,e,-,hk,-⟩:=Bs.cell hx.bs 0 (by omega)
  cases e
  exact (hI _ hi).2 _ (by simpa using hk)⟩
 have hT:za5 w (fun j=> S j∨I j) a.pt st.l:=⟨h2.rise,fun j hj=> hj.elim (h2.lt j) fun hi=> (hI j hi).1,fun hj=> hj.elim h2.apart (hd _ (Wa _ Ew)),h2.has.imp id fun ⟨d,q,t,e1,e2,e3,e4⟩=> ⟨d,q,t,e1,e2.more fun _=> .inl,e3,e4⟩⟩;refine ⟨H.inv,H.nbl,H.kl,F,L,fun j=> E j∨I j,s,lv,xs,ys,D,hM.box,hc,⟨fun j=> S j∨I j,B,h1,hT,h3,fun j=> ?_,fun hj=> hj.elim h5 (hd _ (Wa _ eY)),h6,h7,h8,fun j hj hb=> hj.elim (fun hs=> h9 j hs hb) (hd _ (Wa _ (eQ j hb)))⟩,hM.hinv,⟨hM.disk.box,hM.disk.row,hM.disk.late,fun x hx=> Da x (hM.disk.sec x hx),fun y hy=> Da y.s (hM.disk.dat y hy),hM.disk.dom,hM.disk.ne⟩,fun j=> ?_,⟨fun hj=> hj.elim hM.ne.1 (hd _ Vx),hM.ne.2.1,fun j hj hD=> hj.elim (fun he=> hM.ne.2.2 j he hD) (hd _ (Nd j hD))⟩,hM.pages,hM.room,hM.many⟩
 ·rw [h4]
  constructor
  ·rintro ((hj | hj | hj | hj) | hj) <;> simp [hj]
  ·rintro (hj | hj | (hj | hj) | hj) <;> simp [hj]
 ·rw [hM.dom]
  constructor
  ·rintro ((hj | hj | hj) | hj) <;> simp [hj]
  ·rintro (hj | (hj | hj) | hj) <;> simp [hj]
theorem StW.keep {w':World} (H:StW w p h a cf st nb k Q) (hc:zaV (fun j=> Q j∨I j) w h st.c) (hd:∀j,Q j→¬I j) (hI:∀j,I j→j < w.heap.size∧NoB w j) (ho:zD I w w'):StW w' p h a cf st nb k Q∧zaV (fun j=> Q j∨I j) w' h st.c:=by
 obtain ⟨F,L,E,s,lv,xs,ys,D,hM⟩:=H.mem;have hW:=H.widen hc hd hI;have Wa:∀j,E j→Q j:=fun j hj=> (hM.dom j).2 (.inr (.inl hj));have Vx:Q p:=(hM.dom p).2 (.inl rfl);have Nd:∀j,D j→Q j:=fun j hj=> (hM.dom j).2 (.inr (.inr hj));have Da:∀x:Sh,znB Q w x→znB Q w' x:=fun x hx=> hx.heap (ho.block x.g hx.lt fun hi=> by
  obtain ⟨b,o,c,e,-,hk,-⟩:=Bs.cell hx.bs 0 (by omega)
  cases e
  exact (hI _ hi).2 _ (by simpa using hk)) hx.far
 have Jc:zaV (fun j=> Q j∨I j) w' h st.c:=hc.outs (ho.more fun _=> .inr) fun _ hj=> .inl hj;refine ⟨⟨H.inv,H.nbl,H.kl,F,L,E,s,lv,xs,ys,D,(ho.block p hM.plt (hd p Vx)).trans hM.box,Jc.outs (zD.refl _ _) fun _ hj=> .inl (.inl hj),hM.hist.kept (ho.kept hM.hist.lt fun j hj=> hd j (Wa j hj)),hM.hinv, ?_,hM.dom,hM.ne,hM.pages,hM.room,hM.many⟩,Jc⟩;have hk:∀j,D j→w'.heap[j]? =w.heap[j]? :=fun j hj=> ho.block j (hM.disk.lt j hj) (hd j (Nd j hj));exact ⟨(hk _ hM.disk.self).trans hM.disk.box,hM.disk.row.heap (hk s ((hM.disk.dom s).2 (.inr (.inl rfl)))),zK.heap hM.disk.late fun g hg=> hk g ((hM.disk.dom g).2 (.inr (.inr hg))),fun x hx=> Da x (hM.disk.sec x hx),fun y hy=> Da y.s (hM.disk.dat y hy),hM.disk.dom,hM.disk.ne⟩
end
end
section
open Go.RowKit
theorem zi1 (l:List En) (v s a n:Nat):zaL l v s a (n+1)=zaL l v s a n++if atL l v (a+n) s≠0 then [⟨a+n,0,none⟩] else []:=by
 unfold zaL;rw [List.range'_1_concat,List.filter_append,List.map_append]
 by_cases h:atL l v (a+n) s=0 <;> simp [h]
theorem zkZ (l:List En) (v s a n:Nat):(zaL l v s a n).length≤n:=by
 unfold zaL;rw [List.length_map];exact zs (List.length_filter_le _ _) (by rw [List.length_range'];exact zl)
def HolE (w0:World) (p:Nat) (h:Ch) (a:StA) (cf:Cfg) (st:PS) (nb k:Nat) (Q:Nat→Prop) (x:Nat) (hc:Ch) (g:Chg) (e:Ending) (w':World):Prop:=e= .returned (.tuple #[])∧∃pv pl,EvC w0 w' p h a cf st nb k Q x hc g pv pl
theorem zhU {w0 w:World} {p:Nat} {h:Ch} {a:StA} {cf:Cfg} {st:PS} {nb k:Nat} {Q:Nat→Prop} {x:Nat} {hc:Ch} {g:Chg} {pv:Value} {pl:List Ph} (H:EvC w0 w p h a cf st nb k Q x hc g pv pl) (hg:g.puts= []) (v fr til:Nat) (hv:v < 65536) (Mw:fr≤100) (cC:til≤100):
 Calls Tryz.prog 83 #[.pointer (some ⟨p,0,none⟩), .pointer (some ⟨x,0,none⟩), .int .i64 (v:Int), .int .i64 (fr:Int), .int .i64 (til:Int)] w (HolE w0 p h a cf st nb k Q x hc {g with vol:=v,puts:=zaL st.l v st.seq fr (til - fr)}):=by
 obtain ⟨w1,Ab⟩:∃w1,w1=w.setCell ⟨x,10,none⟩ (.int .i64 (v:Int)):=⟨_,rfl⟩;have AH:w1.heap[x]? =some (.cells (zb8 hc {g with vol:=v} pv) 82 (0,0)):=by rw [Ab];exact heap_setCell_same w x 10 _ _ _ H.chg.box
 have Cf:w.grownBy w1 (some x):=by rw [Ab];exact zq w ⟨x,10,none⟩ _
 have H1:EvC w0 w1 p h a cf st nb k Q x hc {g with vol:=v} pv pl:=⟨H.st,H.bel.grown Cf H.bel.size (fun r hr=> by cases hr;exact H.chg.lo),H.chg.turn AH Cf H.chg.cat rfl⟩
 obtain ⟨c0,c1,c2,c3,c4,c5,c6,c7,c8,c9,c10,c11,c12,c13,c14,cf0⟩:=H.chg.reads;have f10:=cf0 10;have e0:({g with vol:=v,puts:=zaL st.l v st.seq fr 0}:Chg)={g with vol:=v}:=by rw [show zaL st.l v st.seq fr 0= [] from rfl,← hg]
 have HZ:Hid (EvC w0 w1 p h a cf st nb k Q x hc {g with vol:=v,puts:=zaL st.l v st.seq fr 0} pv pl):=zh (by rw [e0];exact H1)
 have H1:=zh (zn H1 (zn hg H.chg.lo));clear e0 H hg AH Cf cf0 c0 c1 c2 c3 c4 c5 c6 c7 c8 c9 c11 c12 c13 c14;go_enter Tryz.func83,Tryz.ntmps83;go_upto_region 1 with fail;rw [← Ab];clear Ab c10 f10;go_wp2_with fail
 go_loopw [10] (fun u wr=> ∃(n:Nat) (pv:Value) (pl:List Ph),(fr+n≤til∨n=0)∧u= .int .i64 ((fr+n:Nat):Int)∧EvC w0 wr p h a cf st nb k Q x hc {g with vol:=v,puts:=zaL st.l v st.seq fr n} pv pl) (fun u _=> til - (intOf u).toNat)
 case atStart=> exact ⟨0,pv,pl, .inr rfl,rfl,HZ.out⟩
 case round=>
  obtain ⟨n,pv,pl,hn,rfl,hE⟩:=hrel;obtain ⟨i,hi⟩:∃i,i=fr+n:=⟨_,rfl⟩;rw [← hi];have HE:=zh hE;clear hE
  by_cases hlt:i < til
  ·have Bb:(i:Int) < (til:Int):=by omega
   have FS:IntKind.i64.wrap ((i:Int)+1)=((i+1:Nat):Int):=by rw [zw _ (by omega)];omega
   have hs:=HE.out.stw;obtain ⟨F,L,E,hH⟩:=hs.hist;have Cj:=zh (fun (W:World) (hW:Below wr.heap.size wr W)=> zf6 (hH.below hW) hs.llen v i st.seq hv (by omega) hs.inv.seq)
   obtain ⟨-,-,-,-,-,-,-,-,-,x9,-,-,-,-,-,-,-,-,x18,-⟩:=hs.reads;have EZ:=zh (fun (W:World) (hW:Below wr.heap.size wr W)=> show W.cell? ⟨p,9,none⟩=some (.pointer (some ⟨a.ph,0,none⟩))∧W.cell? ⟨p,18,none⟩=some (.int .u64 (st.seq:Int)) from ⟨(hs.below hW).reads.2.2.2.2.2.2.2.2.2.1,(hs.below hW).reads.2.2.2.2.2.2.2.2.2.2.2.2.2.2.2.2.2.2.1⟩);unfold zv at Cj;have CX:=zi1 st.l v st.seq fr n;rw [← hi] at CX;have HI:=zh (zn hi (zn CX (zn hn (zkZ st.l v st.seq fr n))));clear hs hH hi CX hn;have Cu:Below wr.heap.size wr wr.drew:=zr.drew;generalize atL st.l v i st.seq=at0 at *;go_wp2_with fail
   go_region_held3 (fun W=> W.cell? ⟨p,9,none⟩=some (.pointer (some ⟨a.ph,0,none⟩))∧W.cell? ⟨p,18,none⟩=some (.int .u64 (st.seq:Int))) (first | with_reducible exact Bg | go_keep)
        ((go_at_call 35;((with_reducible refine (Cj.out _ Cu).mono ?_);rintro e w5 ⟨rfl,Ag⟩;have Ag:Below wr.heap.size wr w5:=Cu.trans Ag;have Bg:=EZ.out w5 Ag)))
   have C1:=zh (HE.out.below Ag);clear Ag Bg Cj EZ x9 x18 Cu
   by_cases h0:at0=0
   ·have i0:((at0:Int) !=0)=false:=by rw [h0];rfl
    have hS:zaL st.l v st.seq fr (n+1)=zaL st.l v st.seq fr n:=by rw [HI.out.2.1,if_neg (by omega),List.append_nil]
    have HF:=zh (show EvC w0 w5 p h a cf st nb k Q x hc {g with vol:=v,puts:=zaL st.l v st.seq fr (n+1)} pv pl by rw [hS];exact C1.out)
    clear hS h0;go_wp2_with fail
    go_roundw
    case rel=> exact ⟨n+1,pv,pl, .inl (by have:=HI.out.1;omega),by have:=HI.out.1;congr 1;omega,HF.out⟩
    case measure=> simp [intOf];omega
   ·have i0:((at0:Int) !=0)=true:=by simp;omega
    have hS:zaL st.l v st.seq fr (n+1)=zaL st.l v st.seq fr n++ [⟨i,0,none⟩]:=by rw [HI.out.2.1,if_pos h0]
    have Ac:pl.length≤1000:=by
     have h1:=congrArg List.length C1.out.chg.map;rw [List.length_map] at h1;have h2:=HI.out.2.2.2;have h3:=HI.out.1;have h4:pl.length=(zaL st.l v st.seq fr n).length:=h1
     omega
    obtain ⟨v',w',hr,⟨k1,k2⟩,k3,⟨a',n',c',rfl⟩,Kr,E7,-,-⟩:=C1.out.chg.push C1.out.stw.qlt ⟨i,0,none⟩ (fun z hz=> by cases hz) Ac C1.out.bel.size
    obtain ⟨pa,pn,pc,rfl⟩:=C1.out.chg.puts.form;have c11:=C1.out.chg.reads.2.2.2.2.2.2.2.2.2.2.2.1;have HF:=zh (show EvC w0 (w'.setCell ⟨x,11,none⟩ (.slice a' n' c')) p h a cf st nb k Q x hc {g with vol:=v,puts:=zaL st.l v st.seq fr (n+1)} (.slice a' n' c') (pl++ [⟨i,0,none⟩]) by rw [hS];exact ⟨C1.out.st,C1.out.bel.trans E7,Kr⟩)
    unfold zaT dV at hr k3;clear hS h0 Ac Kr E7 HE C1
    go_wp2_with (at_builtin;refine za rfl _ _ _ rfl hr ?_)
    go_roundw
    case rel=> exact ⟨n+1,_,_, .inl (by have:=HI.out.1;omega),by have:=HI.out.1;congr 1;omega,HF.out⟩
    case measure=> simp [intOf];omega
  ·have Bb:¬(i:Int) < (til:Int):=by omega
   have BH:til - fr=n:=by omega
   have HF:=zh (show EvC w0 wr p h a cf st nb k Q x hc {g with vol:=v,puts:=zaL st.l v st.seq fr (til - fr)} pv pl by rw [BH];exact HE.out)
   clear BH;go_wp2_with fail;go_end0;unfold HolE;exact ⟨rfl,pv,pl,HF.out⟩
end
section
open Go.RowKit
set_option maxRecDepth 100000
section
variable {P:Program} {ops:Array Oper} {Q:Exit→Act→World→Prop} {md:Region.Mode} {S:World→Prop} {a a' a'':Act} {w:World} {d:Option Nat} {oi oj:Oper} {v u:Value} {n m f:Nat} {e:List Nat}
def teB (md:Region.Mode) (ops:Array Oper) (e:List Nat) (n j:Nat):Bool:=
 decide (j < ops.size) && Region.noSelect ops && Region.free md ops (pre ops.size n e) j && (Region.ready md ops (pre ops.size n e)).contains j && zl4 md ops (pre ops.size n e)
theorem te (j:Nat) (h:zjy P md ops Q S (j::e) n f a' w) (hi:ops[j]? =some oi:=by rfl) (hS:S w:=by assumption)
 (hb:teB md ops e n j=true:=by kernel_rfl) (hw:Region.wanted oi (yielded ops a.tmps)=true:=by rfl) (hy:∀w',S w'→(execOp a.eval oi).run P w'= .ok (.value v) w':=by (intro w' O4;(repeat (have yo:=And.left O4;replace O4:=And.right O4));go_simp;try with_reducible rfl))
 (ha:a.put oi.dst v=a':=by (try simp only [Act.put,List.getElem_toArray,List.getElem_cons_zero,List.getElem_cons_succ,List.setIfInBounds_toArray,List.set_cons_zero,List.set_cons_succ]);try rfl) (hQ:∀c a w,Q (.panic c) (a.put oi.dst v) w→Q (.panic c) a w:=by exact fun _ _ _ h=> h):zjy P md ops Q S e n (f+1) a w:=by
 subst ha;simp only [teB,Bool.and_eq_true] at hb;obtain ⟨⟨⟨⟨hn,hs⟩,hf⟩,hr⟩,hc⟩:=hb;have hn:=of_decide_eq_true hn;unfold zjy at *;rw [← zoN hn] at h;exact zf5 (f:=0) (S:=S) hi (Region.noSelect_spec hs) hQ (fun w hw=> hw) _ _ a w (Region.free_spec hi hf) (fun _=> .inr (.inr fun _ h=> h)) (zeq hc) (by simpa using hr) (.inl ⟨hw,hy⟩) hS h
theorem s2 (j:Nat) {w' w'':World} (h:∀w2,w2=w'→S w2∧(S w2→zjy P md ops Q S e m f a' w2)) (h':∀w2,w2=w''→S w2∧(S w2→zjy P md ops Q S (j::e) n f a'' w2))
 (hi:ops[n]? =some oi:=by rfl) (hj:ops[j]? =some oj:=by rfl) (hm:n+1=m:=by (try simp only [Nat.reduceAdd]);rfl) (hn:(Nat.blt n ops.size && Nat.blt j ops.size)=true:=by kernel_rfl) (hr:Region.ready md ops (pre ops.size n e)= [n,j]:=by kernel_rfl)
 (hw:Region.wanted oi (yielded ops a.tmps)=true:=by kernel_rfl) (dM:Region.wanted oj (yielded ops a.tmps)=true:=by kernel_rfl)
 (hy:(execOp a.eval oi).run P w= .ok (.value v) w':=by (go_simp;try with_reducible (first | rfl | exact ⟨rfl,rfl⟩))) (qv:(execOp a.eval oj).run P w= .ok (.value u) w'':=by (go_simp;try with_reducible (first | rfl | exact ⟨rfl,rfl⟩)))
 (ha:a.put oi.dst v=a':=by (try simp only [Act.put,List.getElem_toArray,List.getElem_cons_zero,List.getElem_cons_succ,List.setIfInBounds_toArray,List.set_cons_zero,List.set_cons_succ]);try rfl)
 (j8:a.put oj.dst u=a'':=by (try simp only [Act.put,List.getElem_toArray,List.getElem_cons_zero,List.getElem_cons_succ,List.setIfInBounds_toArray,List.set_cons_zero,List.set_cons_succ]);try rfl):zjy P md ops Q S e n (f+1) a w:=by
 subst ha j8 hm;simp only [Bool.and_eq_true,Nat.blt_eq] at hn;unfold zjy at *;refine zbq hr hi hj (fun K' hK=> ?_) fun K' hK=> ?_
 ·rw [if_pos hw];unfold Oper.wp;rw [hy];refine hK.out _ _ (h _ rfl).1 ?_;rw [zoM hn.1];exact (h _ rfl).2 (h _ rfl).1
 ·rw [if_pos dM];unfold Oper.wp;rw [qv];refine hK.out _ _ (h' _ rfl).1 ?_;rw [zoN hn.2];exact (h' _ rfl).2 (h' _ rfl).1
theorem s3 (j:Nat) {w' w'':World} (h:∀w2,w2=w'→S w2∧(S w2→zjy P md ops Q S e m f a' w2)) (h':∀w2,w2=w''→S w2∧(S w2→zjy P md ops Q S (j::e) n f a w2))
 (hi:ops[n]? =some oi:=by rfl) (hj:ops[j]? =some oj:=by rfl) (hm:n+1=m:=by (try simp only [Nat.reduceAdd]);rfl) (hn:(Nat.blt n ops.size && Nat.blt j ops.size)=true:=by kernel_rfl) (hr:Region.ready md ops (pre ops.size n e)= [n,j]:=by kernel_rfl)
 (hw:Region.wanted oi (yielded ops a.tmps)=true:=by kernel_rfl) (dM:Region.wanted oj (yielded ops a.tmps)=true:=by kernel_rfl) (hd:oj.dst=none:=by rfl)
 (hy:(execOp a.eval oi).run P w= .ok (.value v) w':=by (go_simp;try with_reducible (first | rfl | exact ⟨rfl,rfl⟩))) (qv:(execOp a.eval oj).run P w= .ok .skip w'':=by (go_simp;try with_reducible rfl))
 (ha:a.put oi.dst v=a':=by (try simp only [Act.put,List.getElem_toArray,List.getElem_cons_zero,List.getElem_cons_succ,List.setIfInBounds_toArray,List.set_cons_zero,List.set_cons_succ]);try rfl):zjy P md ops Q S e n (f+1) a w:=by
 subst ha hm;simp only [Bool.and_eq_true,Nat.blt_eq] at hn;unfold zjy at *;refine zbq hr hi hj (fun K' hK=> ?_) fun K' hK=> ?_
 ·rw [if_pos hw];unfold Oper.wp;rw [hy];refine hK.out _ _ (h _ rfl).1 ?_;rw [zoM hn.1];exact (h _ rfl).2 (h _ rfl).1
 ·rw [if_pos dM];unfold Oper.wp;rw [qv];refine hK.out _ _ (h' _ rfl).1 ?_;rw [hd,zoN hn.2];exact (h' _ rfl).2 (h' _ rfl).1
end
end
section
open Go.RowKit
def ct0:Ct:=⟨0,0,0,0, [], [], [], [], []⟩
def ch0:Ch:=⟨none,0, [],none,0, [],none,0, [],none,0,none,0⟩
theorem znV (Q:Nat→Prop) (w:World):zaV Q w ch0 ct0:=
 ⟨⟨⟨zM.nil _ _ _ _,fun _ _ e=> by cases e⟩,by simp [ch0]⟩,rfl,⟨⟨zM.nil _ _ _ _,fun _ _ e=> by cases e⟩,by simp [ch0]⟩,rfl,⟨⟨zM.nil _ _ _ _,fun _ _ e=> by cases e⟩,by simp [ch0]⟩,rfl,⟨zM.nil _ _ _ _,fun _ _ e=> by cases e⟩,⟨zM.nil _ _ _ _,fun _ _ e=> by cases e⟩⟩
theorem znA.any {Q:Nat→Prop} {w:World} {v:Value} {e:Nat} {c:Ct} (h:znA Q w v e c):∃h' c',v= .agg (Ch.cells h' c')∧zaV Q w h' c'∧(c'=c∧e=0∨c'=ct0∧e≠0):=by
 rcases h with ⟨he,cs,rfl,rfl⟩ | ⟨rfl,h',rfl,hr⟩
 ·exact ⟨ch0,ct0,rfl,znV Q w, .inr ⟨rfl,he⟩⟩
 ·exact ⟨h',c,rfl,hr, .inl ⟨rfl,rfl⟩⟩
theorem ChM.cat9 {Q:Nat→Prop} {B:Nat} {w:World} {x:Nat} {h h':Ch} {g:Chg} {pv:Value} {pl:List Ph} (X:ChM Q B w x h g pv pl) {c':Ct} (hc:zaV (fun j=> Q j∨j=x∨pv.ownBlock=some j) w h' c'):
 ChM Q B ((((((((((w.setCell ⟨x,0,none⟩ (.int .i64 (c'.nv:Int))).setCell ⟨x,1,none⟩ (.int .i64 (c'.ng:Int))).setCell ⟨x,2,none⟩ (.int .i64 (c'.nb:Int))).setCell ⟨x,3,none⟩ (.int .u64 (c'.fl:Int))).setCell ⟨x,4,none⟩ (.slice h'.va c'.vols.length h'.vc)).setCell ⟨x,5,none⟩ (.slice h'.ga c'.groups.length h'.gc)).setCell ⟨x,6,none⟩ (.slice h'.ba c'.books.length h'.bc)).setCell ⟨x,7,none⟩ (.slice h'.ka c'.kept.length h'.kc)).setCell ⟨x,8,none⟩ (.slice h'.ta c'.times.length h'.tc))) x h' {g with c:=c'} pv pl:=by
 have t:∀{X Y:World} (i:Nat) (v:Value),X.grownBy Y (some x)→X.grownBy (Y.setCell ⟨x,i,none⟩ v) (some x):=fun i v h=> h.trans (zq _ ⟨x,i,none⟩ v);refine X.turn ?_ (t 8 _ (t 7 _ (t 6 _ (t 5 _ (t 4 _ (t 3 _ (t 2 _ (t 1 _ (t 0 _ (World.grownBy.refl _ _)))))))))) hc rfl;have e0:=X.box;unfold zb8 at e0 ⊢;have e1:=heap_setCell_same _ x 0 _ _ (.int .i64 (c'.nv:Int)) e0;simp only [List.setIfInBounds_toArray,List.set_cons_zero,List.set_cons_succ] at e1;have e2:=heap_setCell_same _ x 1 _ _ (.int .i64 (c'.ng:Int)) e1;simp only [List.setIfInBounds_toArray,List.set_cons_zero,List.set_cons_succ] at e2;have e3:=heap_setCell_same _ x 2 _ _ (.int .i64 (c'.nb:Int)) e2;simp only [List.setIfInBounds_toArray,List.set_cons_zero,List.set_cons_succ] at e3;have e4:=heap_setCell_same _ x 3 _ _ (.int .u64 (c'.fl:Int)) e3;simp only [List.setIfInBounds_toArray,List.set_cons_zero,List.set_cons_succ] at e4;have e5:=heap_setCell_same _ x 4 _ _ (.slice h'.va c'.vols.length h'.vc) e4;simp only [List.setIfInBounds_toArray,List.set_cons_zero,List.set_cons_succ] at e5;have e6:=heap_setCell_same _ x 5 _ _ (.slice h'.ga c'.groups.length h'.gc) e5;simp only [List.setIfInBounds_toArray,List.set_cons_zero,List.set_cons_succ] at e6;have e7:=heap_setCell_same _ x 6 _ _ (.slice h'.ba c'.books.length h'.bc) e6;simp only [List.setIfInBounds_toArray,List.set_cons_zero,List.set_cons_succ] at e7;have e8:=heap_setCell_same _ x 7 _ _ (.slice h'.ka c'.kept.length h'.kc) e7;simp only [List.setIfInBounds_toArray,List.set_cons_zero,List.set_cons_succ] at e8;have e9:=heap_setCell_same _ x 8 _ _ (.slice h'.ta c'.times.length h'.tc) e8;simp only [List.setIfInBounds_toArray,List.set_cons_zero,List.set_cons_succ] at e9;exact e9
theorem ChM.cell1 {Q:Nat→Prop} {B:Nat} {w:World} {x:Nat} {h:Ch} {g g':Chg} {pv:Value} {pl:List Ph} (X:ChM Q B w x h g pv pl) {i:Nat} {v:Value} (he:(zb8 h g pv).setIfInBounds i v=zb8 h g' pv) (hc:g'.c=g.c) (hp:g'.puts=g.puts):ChM Q B (w.setCell ⟨x,i,none⟩ v) x h g' pv pl:=by
 refine X.turn ?_ (zq w ⟨x,i,none⟩ v) (by rw [hc];exact X.cat) hp
 rw [← he];exact heap_setCell_same w x i _ _ v X.box
theorem ChM.id1 {Q:Nat→Prop} {B:Nat} {w:World} {x:Nat} {h:Ch} {g:Chg} {pv:Value} {pl:List Ph} (X:ChM Q B w x h g pv pl) (n:Nat):ChM Q B (w.setCell ⟨x,9,none⟩ (.int .i64 (n:Int))) x h {g with id:=n} pv pl:=X.cell1 rfl rfl rfl
theorem ChM.prune1 {Q:Nat→Prop} {B:Nat} {w:World} {x:Nat} {h:Ch} {g:Chg} {pv:Value} {pl:List Ph} (X:ChM Q B w x h g pv pl) (b:Bool):ChM Q B (w.setCell ⟨x,13,none⟩ (.bool b)) x h {g with prune:=b} pv pl:=X.cell1 rfl rfl rfl
abbrev Far (x:Nat):=zD fun j=> j=x
theorem Far.of {x:Nat} {w W:World} (h:Below w.heap.size w W):Far x w W:=zD.of_below h
theorem Far.tr {x:Nat} {w W U:World} (h:Far x w W) (k:Far x W U):Far x w U:=zD.trans h k fun _ e=> .inl e
theorem zml {x i:Nat} {w:World} (v:Value):Far x w (w.setCell ⟨x,i,none⟩ v):=zD.turn (zq w ⟨x,i,none⟩ v) rfl
section
variable {w0 w:World} {p:Nat} {h:Ch} {a:StA} {cf:Cfg} {st:PS} {nb k:Nat} {Q:Nat→Prop} {x sq:Nat} {o:PO} {da:Option Addr} {dn:Nat} {ma:Option Addr} {mn:Nat}
theorem ev0 (H:EvC w0 w p h a cf st nb k Q x h (Chg.nil st.c sq) (.slice none 0 0) []) (hO:OpM w o da dn ma mn) (dc mc:Nat):
 ∃w1,w1=w.alloc (.cells (opA o da dn dc ma mn mc) 28)∧Hid (EvC w0 w1 p h a cf st nb k Q x h (Chg.nil st.c sq) (.slice none 0 0) []∧OpM w1 o da dn ma mn)∧
  (∀W,Far x w1 W→∀i,W.cell? ⟨p,i,none⟩=(zcH h a cf st)[i]? ∧W.frozen? ⟨p,i,none⟩=false)∧(∀W,Far x w1 W→∀i,W.cell? ⟨w.heap.size,i,none⟩=(opA o da dn dc ma mn mc)[i]? ∧W.frozen? ⟨w.heap.size,i,none⟩=false)∧
  (∀W,Below w1.heap.size w1 W→∀i,W.cell? ⟨x,i,none⟩=(zb8 h (Chg.nil st.c sq) (.slice none 0 0))[i]? ∧W.frozen? ⟨x,i,none⟩=false)∧Below w1.heap.size w1 w1.drew:=by
 have Aa:Below w.heap.size w (w.alloc (.cells (opA o da dn dc ma mn mc) 28)):=zr.alloc zl _;have H1:=H.below Aa;have CI:=H.chg.xlt;refine ⟨_,rfl,⟨H1,hO.below Aa⟩,fun W hW=> rdA ((hW.block p H1.stw.plt ?_).trans H1.stw.box),fun W hW=> rdA ((hW.block _ (by simp) (by omega)).trans (heap_alloc_new w _)),fun W hW=> rdA ((hW.block _ H1.chg.xlt).trans H1.chg.box),zr.drew⟩
 intro e;have:=H.chg.lo;have:=H.st.plt
 omega
theorem cw {hc:Ch} {g:Chg} {pv:Value} {pl:List Ph} (H:EvC w0 w p h a cf st nb k Q x hc g pv pl) (j:Nat) (hj:Q j∨j=x∨pv.ownBlock=some j) {W:World} (hW:Below w.heap.size w W):j < W.heap.size:=by
 refine zt ?_ hW.size;rcases hj with hj | hj | hj
 ·exact H.stw.qlt j hj
 ·rw [hj];exact H.chg.xlt
 ·exact (H.chg.puts.lt j hj).2
end
section
variable {Q:Nat→Prop} {B:Nat} {w wS:World} {x:Nat} {h h':Ch} {g:Chg} {pv:Value} {pl:List Ph}
theorem ChM.rd (X:ChM Q B w x h g pv pl):∀W,Below w.heap.size w W→∀i,W.cell? ⟨x,i,none⟩=(zb8 h g pv)[i]? ∧W.frozen? ⟨x,i,none⟩=false:=fun W hW=> rdA ((hW.block _ X.xlt).trans X.box)
theorem ChM.lay1 {n:Nat} (e:wS=w.setCell ⟨x,9,none⟩ (.int .i64 (n:Int))) (X:ChM Q B w x h g pv pl):ChM Q B wS x h {g with id:=n} pv pl∧Far x w wS∧Below B w wS:=by
 subst e;exact ⟨X.id1 n,zml _,(Below.refl B w).setCell (p:=⟨x,9,none⟩) X.lo _⟩
theorem ChM.lay13 {b:Bool} (e:wS=w.setCell ⟨x,13,none⟩ (.bool b)) (X:ChM Q B w x h g pv pl):ChM Q B wS x h {g with prune:=b} pv pl∧Far x w wS∧Below B w wS:=by
 subst e;exact ⟨X.prune1 b,zml _,(Below.refl B w).setCell (p:=⟨x,13,none⟩) X.lo _⟩
theorem ChM.lay9 {c':Ct} (e:wS=((((((((((w.setCell ⟨x,0,none⟩ (.int .i64 (c'.nv:Int))).setCell ⟨x,1,none⟩ (.int .i64 (c'.ng:Int))).setCell ⟨x,2,none⟩ (.int .i64 (c'.nb:Int))).setCell ⟨x,3,none⟩ (.int .u64 (c'.fl:Int))).setCell ⟨x,4,none⟩ (.slice h'.va c'.vols.length h'.vc)).setCell ⟨x,5,none⟩ (.slice h'.ga c'.groups.length h'.gc)).setCell ⟨x,6,none⟩ (.slice h'.ba c'.books.length h'.bc)).setCell ⟨x,7,none⟩ (.slice h'.ka c'.kept.length h'.kc)).setCell ⟨x,8,none⟩ (.slice h'.ta c'.times.length h'.tc))))
 (X:ChM Q B w x h g pv pl) (hc:zaV (fun j=> Q j∨j=x∨pv.ownBlock=some j) w h' c'):ChM Q B wS x h' {g with c:=c'} pv pl∧Far x w wS∧Below B w wS∧∀W,Below wS.heap.size wS W→∀i,W.cell? ⟨x,i,none⟩=(zb8 h' {g with c:=c'} pv)[i]? ∧W.frozen? ⟨x,i,none⟩=false:=by
 have X3:=X.cat9 hc;rw [← e] at X3;have t:∀{Y:World} (i:Nat) (v:Value),Far x w Y→Far x w (Y.setCell ⟨x,i,none⟩ v):=fun i v h=> h.tr (zml v);exact ⟨X3,e ▸ t 8 _ (t 7 _ (t 6 _ (t 5 _ (t 4 _ (t 3 _ (t 2 _ (t 1 _ (t 0 _ (zD.refl _ w))))))))),e ▸ zG (Below.refl B w) X.lo _ _ _ _ _ _ _ _ _,X3.rd⟩
end
structure Bx (p:Prop):Prop where
 out:p
end
section
open Go.RowKit
set_option maxRecDepth 100000
set_option maxHeartbeats 16000000
set_option linter.unusedSectionVars false
attribute [local simp] Below.refl
end
section
open Go.RowKit
set_option maxRecDepth 100000
set_option maxHeartbeats 16000000
set_option linter.unusedSectionVars false
attribute [local simp] Below.refl
end
section
open Go.RowKit
set_option maxRecDepth 100000
set_option maxHeartbeats 16000000
set_option linter.unusedSectionVars false
attribute [local simp] Below.refl
theorem zqG {w w':World} {r:Array Value} {t:TypeId} {b:Nat} (hw:w'=w.alloc (.cells r t)) (hb:b=w.heap.size):w'.heap[b]? =some (.cells r t (0,0)):=by rw [hw,hb];exact heap_alloc_new w _
end
section
open Go.RowKit
set_option maxRecDepth 100000
set_option maxHeartbeats 16000000
set_option linter.unusedSectionVars false
attribute [local simp] Below.refl
end
section
open Go.RowKit
set_option maxRecDepth 100000
set_option maxHeartbeats 16000000
set_option linter.unusedSectionVars false
attribute [local simp] Below.refl
end
section
open Go.RowKit
set_option maxRecDepth 100000
set_option maxHeartbeats 16000000
set_option linter.unusedSectionVars false
def wrC (c:Ct) (l:List En) (s:Nat) (o:PO):Chg:=if o.k=5 then {Chg.nil c s with vol:=o.v.toNat,puts:=zaL l o.v.toNat (s - 1) o.b.toNat o.n.toNat} else {Chg.nil c s with vol:=o.v.toNat,puts:= [⟨o.b.toNat,0,some (zdy o.d)⟩]}
theorem zeu (c:Ct) (l:List En) (s:Nat) (o:PO) (hb:0≤o.b) (m:Int) (hm:0≤m) (Vp:o.k=5→m=o.n) (aq:o.k≠5→m=1):((zaD c o.v o.b m).2≠0∧zaz c l s o=((zaD c o.v o.b m).2,Chg.nil c s))∨((zaD c o.v o.b m).2=0∧zaz c l s o=(0,wrC c l s o)):=by
 unfold zaz zaD wrC
 cases c.find o.v with
 | none=> exact .inl ⟨by simp,rfl⟩
 | some y=>
   simp only
   by_cases h5:o.k=5
   ·have h6:=Vp h5;rw [if_pos h5,if_pos h5]
    by_cases h:o.b < 0∨(zas y.sizes:Int) - o.b < m
    ·rw [if_pos h,if_pos (by omega)];exact .inl ⟨by simp,rfl⟩
    ·rw [if_neg h,if_neg (by omega)];exact .inr ⟨rfl,rfl⟩
   ·have h6:=aq h5;rw [if_neg h5,if_neg h5]
    by_cases h:o.b < 0∨(zas y.sizes:Int) - o.b < m
    ·rw [if_pos h,if_pos (by omega)];exact .inl ⟨by simp,rfl⟩
    ·rw [if_neg h,if_neg (by omega)];exact .inr ⟨rfl,rfl⟩
attribute [local simp] Below.refl
theorem ChM.lit2 {Q:Nat→Prop} {B:Nat} {w W:World} {x nb:Nat} {h:Ch} {g g':Chg} (X:ChM Q B w x h g (.slice none 0 0) []) (hF:Far x w W) (AH:W.heap[x]? =some (.cells (zb8 h g' (.slice (some ⟨nb,0,none⟩) 1 1)) 82 (0,0))) (hc:g'.c=g.c) (y:Ph) (hp:g'.puts= [y.pu])
 (C5:W.heap[nb]? =some (.cells (zaT y).toArray 88 (0,0))) (hn:w.heap.size≤nb) (hQ:∀j,Q j→j < w.heap.size) (hB:B≤w.heap.size) (hd:∀z,y.d=some z→Bs w (some ⟨z.1,0,none⟩) 64 z.2∧¬(Q z.1∨z.1=x)):ChM Q B W x h g' (.slice (some ⟨nb,0,none⟩) 1 1) [y]:=by
 have CI:=X.xlt;have ho:∀j,(Value.slice (some ⟨nb,0,none⟩) 1 1).ownBlock=some j→j=nb:=fun j e=> (Option.some.inj e).symm;refine ⟨AH,X.lo, ?_, ?_,fun e=> ?_,by rw [hp];rfl,fun z hz u hu=> ?_⟩
 ·rw [hc];exact X.cat.outs (hF.more fun j hj=> .inr (.inl hj)) fun j hj=> hj.elim (fun h=> .inl (.inl h)) fun h=> h.elim (fun h=> .inl (.inr (.inl h))) fun h=> .inr (by rw [ho j h];exact hn)
 ·exact ⟨by simp [zB,zaT], .inr ⟨nb,1,(zaT y).toArray,rfl,zs hB hn,C5,zl,by decide,by simp [zaT],by simp [zB,zaT]⟩⟩
 ·have:=ho x e
  omega
 ·simp only [List.mem_singleton] at hz;subst hz;obtain ⟨h1,h2⟩:=hd u hu;obtain ⟨b,o,c,e,-,-,F5⟩:=Bs.cell h1 0 (by omega)
  cases e
  refine ⟨Bs.heap h1 (hF.block u.1 F5 fun e=> h2 (.inr e)),fun hq=> hq.elim (fun h=> h2 (.inl h)) fun h=> h.elim (fun h=> h2 (.inr h)) fun h=> ?_⟩;have:=ho _ h
  omega
theorem zlP {w0 w:World} {p:Nat} {h:Ch} {a:StA} {cf:Cfg} {st:PS} {nb k:Nat} {Q:Nat→Prop} {x sq:Nat} {o:PO} {da:Option Addr} {dn dc:Nat} {ma:Option Addr} {mn mc:Nat} (H:EvC w0 w p h a cf st nb k Q x h (Chg.nil st.c sq) (.slice none 0 0) []) (AE:sq=st.seq+1) (hO:OpM w o da dn ma mn) (hv:1≤o.v∧o.v≤65535) (hb:0≤o.b∧o.b≤31) (hk:o.k=5∧1≤o.n∧o.n≤32):
 Calls Tryz.prog 48 #[.pointer (some ⟨p,0,none⟩), .pointer (some ⟨x,0,none⟩), .agg (opA o da dn dc ma mn mc)] w (EvE w0 Q x (zaz st.c st.l sq o)):=by
 have AW:=zeu st.c st.l sq o hb.1 o.n (by omega) (fun _=> rfl) (fun h=> absurd hk.1 h)
 obtain ⟨w1,Ab,H1,S,O,E,Cu⟩:=ev0 H hO dc mc;have HW:=zh fun (W:World) (hW:Below w1.heap.size w1 W)=> zen (H1.out.1.stw.below hW) o.v o.b o.n hO.fit.2.2.1;obtain ⟨ew,Po⟩:∃ew,(zaD st.c o.v o.b o.n).2=ew:=⟨_,rfl⟩;rw [Po] at AW HW;have Br:=zh AW;have HV:=zh (zn hv (zn hb (zn hk AE)));have q:=O w1 (zD.refl _ _);have o0:w1.cell? ⟨w.heap.size,0,none⟩=some (.int .i64 5):=hk.1 ▸ (q 0).1;have o1:w1.cell? ⟨w.heap.size,1,none⟩=some (.int .i64 o.v):=(q 1).1;have o3:w1.cell? ⟨w.heap.size,3,none⟩=some (.int .i64 o.b):=(q 3).1;have o4:w1.cell? ⟨w.heap.size,4,none⟩=some (.int .i64 o.n):=(q 4).1;unfold opA at Ab ⊢;rw [hk.1] at Ab ⊢;clear H AE hO AW Po Cu q E hv hb hk
 go_in
 go_upto_region 1 with fail;rw [← Ab];clear Ab;go_wp2_with fail;refine (HW.out w1 zr).mono ?_;rintro _ w3 ⟨rfl,Am⟩;have AI:=zh Am;have q:=O w3 (.of Am);clear HW o0 o1 o3 o4 S O;have o0:w3.cell? ⟨w.heap.size,0,none⟩=some (.int .i64 5):=HV.out.2.2.1.1 ▸ (q 0).1;have o1:w3.cell? ⟨w.heap.size,1,none⟩=some (.int .i64 o.v):=(q 1).1;have o3:w3.cell? ⟨w.heap.size,3,none⟩=some (.int .i64 o.b):=(q 3).1;clear q Am
 by_cases hz:ew=0
 ·rcases Br.out with ⟨h0,-⟩ | ⟨-,CH⟩
  ·exact absurd hz h0
  ·have HE:=zh CH;have HH:=zh (zhU (p:=p) (a:=a) (cf:=cf) (st:=st) (H1.out.1.below AI.out) rfl o.v.toNat o.b.toNat (o.b.toNat+o.n.toNat) (by have:=HV.out;omega) (by have:=HV.out;omega) (by have:=HV.out;omega))
   have hb:=HV.out;simp only [show ((o.v.toNat:Nat):Int)=o.v by omega,show ((o.b.toNat:Nat):Int)=o.b by omega,show ((o.b.toNat+o.n.toNat:Nat):Int)=o.b+o.n by omega] at HH
   have k1:IntKind.i64.wrap (o.b+o.n)=o.b+o.n:=zw _ (by omega)
   subst hz;clear CH hb;go_wp2_with fail;refine HH.out.mono ?_;rintro e w6 ⟨rfl,pv,pl,X6⟩;clear HH k1 o0 o1 o3;go_wp2_with fail;go_ret;exact ⟨by rw [HE.out];rfl,X6.bel,fun _=> ⟨h,pv,pl,by rw [HE.out];unfold wrC;rw [if_pos HV.out.2.2.1.1,show sq - 1=st.seq by have:=HV.out;omega];have q:=X6.chg;rw [show o.b.toNat+o.n.toNat - o.b.toNat=o.n.toNat by omega] at q;exact q⟩⟩
 ·rcases Br.out with ⟨-,CH⟩ | ⟨h0,-⟩
  ·have i1:((ew:Int) !=0)=true:=by rw [bne_iff_ne];omega
   clear o0 o1 o3;go_wp2_with fail;go_ret;exact ⟨by rw [CH];rfl,H1.out.1.bel.trans (AI.out.mono H1.out.1.bel.size),fun e=> absurd (by rw [CH] at e;exact e) hz⟩
  ·exact absurd h0 hz
theorem wrZ {p:Prop} (h:p:=by
 have R7:=rdA Uq;simp only [zb8] at R7
 repeat (first | refine sk ?_ | refine tk ?_)
 refine su ?_;clear R7;intro w8 hw;have g8:=zq w7 ⟨x,11,none⟩ (.slice (some ⟨nb,0,none⟩) 1 1);have LL:Far x w5 w8:=q9.tr (hw ▸ zml _);have aD:w8.heap[nb]? =some (.cells (zaT ⟨o.b.toNat,0,some (g,zdy o.d)⟩).toArray 88 (0,0)):=by rw [hw];exact (g8.block nb (zg QW).1 fun e=> DU (Option.some.inj e)).trans QW
 have GX:=heap_setCell_same w7 x 11 _ _ (.slice (some ⟨nb,0,none⟩) 1 1) Uq;have Sj:Below w0.heap.size w0 w8:=CL.trans ⟨LL.os,LL.tape,LL.output,LL.size,fun j hj=> LL.block j (zt hj CL.size) fun e=> by have:=X5.lo;omega⟩
 rw [← hw] at GX;simp only [zb8,List.setIfInBounds_toArray,List.set_cons_zero,List.set_cons_succ] at GX;have XF:=zh (X5.lit2 (g':={Chg.nil st.c sq with vol:=o.v.toNat,puts:= [⟨o.b.toNat,0,some (zdy o.d)⟩]}) LL GX rfl ⟨o.b.toNat,0,some (g,zdy o.d)⟩ rfl aD Vt (fun j hj=> zt (H1.out.1.stw.qlt j hj) O7.size) CL.size Ku)
 have Qh:=zh Sj;refine ⟨hS.tr (hw ▸ zml _),fun hS=> ?_⟩;refine rz ?_;clear hw g8 LL aD GX Sj hS O EX Uq QW q9 X5 Ku
 go_wp2
 go_ret;exact ⟨by rw [HE.out];rfl,Qh.out,fun _=> ⟨h,_,_,by rw [HE.out];unfold wrC;rw [if_neg (by rw [HV.out.2.2.1];decide)];exact XF.out⟩⟩):p:=h
theorem zlQ {w0 w:World} {p:Nat} {h:Ch} {a:StA} {cf:Cfg} {st:PS} {nb k:Nat} {Q:Nat→Prop} {x sq:Nat} {o:PO} {da:Option Addr} {dn dc:Nat} {ma:Option Addr} {mn mc:Nat} (H:EvC w0 w p h a cf st nb k Q x h (Chg.nil st.c sq) (.slice none 0 0) []) (AE:sq=st.seq+1) (hO:OpM w o da dn ma mn) (hv:1≤o.v∧o.v≤65535) (hb:0≤o.b∧o.b≤31) (hk:o.k=4):
 Calls Tryz.prog 48 #[.pointer (some ⟨p,0,none⟩), .pointer (some ⟨x,0,none⟩), .agg (opA o da dn dc ma mn mc)] w (EvE w0 Q x (zaz st.c st.l sq o)):=by
 have AW:=zeu st.c st.l sq o hb.1 1 (by omega) (fun h=> by omega) (fun _=> rfl)
 obtain ⟨w1,Ab,H1,S,O,E,Cu⟩:=ev0 H hO dc mc;have HW:=zh fun (W:World) (hW:Below w1.heap.size w1 W)=> zen (H1.out.1.stw.below hW) o.v o.b 1 hO.fit.2.2.1;have eC:=zh fun (W:World) (hW:Below w1.heap.size w1 W)=> zjV dc (H1.out.2.below hW).bs;obtain ⟨ew,Po⟩:∃ew,(zaD st.c o.v o.b 1).2=ew:=⟨_,rfl⟩;rw [Po] at AW HW;have Br:=zh AW;have HV:=zh (zn hv (zn hb (zn hk AE)));have q:=O w1 (zD.refl _ _);have o0:w1.cell? ⟨w.heap.size,0,none⟩=some (.int .i64 4):=hk ▸ (q 0).1;have o1:w1.cell? ⟨w.heap.size,1,none⟩=some (.int .i64 o.v):=(q 1).1;have o3:w1.cell? ⟨w.heap.size,3,none⟩=some (.int .i64 o.b):=(q 3).1;unfold opA at O Ab ⊢;rw [hk] at O Ab ⊢;clear H AE hO AW Po Cu q E hv hb hk S
 go_in
 go_upto_region 1 with fail;rw [← Ab];clear Ab;go_wp2_with fail;refine (HW.out w1 zr).mono ?_;rintro _ w3 ⟨rfl,Am⟩;have AI:=zh Am;replace O:=fun W (hW:Far x w3 W)=> O W ((Far.of AI.out).tr hW);have o0:w3.cell? ⟨w.heap.size,0,none⟩=some (.int .i64 4):=(O w3 (zD.refl _ _) 0).1;clear HW o1 o3 Am
 by_cases hz:ew=0
 ·rcases Br.out with ⟨h0,-⟩ | ⟨-,CH⟩
  ·exact absurd hz h0
  ·have HE:=zh CH;have Cu:=(Below.refl w3.heap.size w3).drew;subst hz;clear CH;go_wp2_with fail;clear o0;refine rg (fun W=> Far x w3 W) (fun hS=> ?_) (.of Cu)
   repeat refine tk ?_
   refine cl (eC.out _ (AI.out.trans (Cu.mono AI.out.size))) ?_;rintro _ w5 ⟨g,rfl,hg,Fq,Bz⟩;have Dj:=Cu.trans Bz;have O7:=AI.out.trans (Dj.mono AI.out.size);have CL:=H1.out.1.bel.trans (O7.mono H1.out.1.bel.size);have X5:=H1.out.1.chg.below O7;have EX:=X5.rd;have Ku:∀z,(⟨o.b.toNat,0,some (g,zdy o.d)⟩:Ph).d=some z→Bs w5 (some ⟨z.1,0,none⟩) 64 z.2∧¬(Q z.1∨z.1=x):=fun z hz=> by
        cases hz
        refine ⟨by have h9:=zjK hg;rw [zaK] at h9;exact h9,fun hq=> ?_⟩
        have h9:w3.heap.size≤g:=Fq;have h8:=AI.out.size;rcases hq with hq | hq
        ·have:=H1.out.1.stw.qlt _ hq;omega
        ·have:=H1.out.1.chg.xlt;omega
   have vk:=zh (show o.b=((o.b.toNat:Nat):Int) by have:=HV.out;omega)
   have bf:=zh (show o.v=((o.v.toNat:Nat):Int) by have:=HV.out;omega)
   refine ⟨_,rfl, .of Dj,fun hS=> ?_⟩;simp only [zb8] at EX;obtain ⟨nb,C5⟩:∃nb,nb=w5.heap.size:=⟨_,rfl⟩;have Vt:w5.heap.size≤nb:=Nat.le_of_eq C5.symm;have DU:nb≠x:=fun e=> by have:=X5.xlt;omega
   refine tk ?_;refine te 11 ?_;refine te 12 ?_;clear Fq Bz Cu;refine s3 13 ?_ ?_
   ·intro w6 hw;rw [vk.out] at hw;have IF:=zqG hw C5;rw [← C5];have CM:Below w5.heap.size w5 w6:=by rw [hw];exact zr.alloc zl _
    have E6:=fun i=> EX w6 CM i;clear hw;refine ⟨hS.tr (.of CM),fun hS=> ?_⟩
    repeat refine sk ?_
    refine su ?_;intro w7 hw;have Uq:=heap_setCell_same w6 x 10 _ _ (.int .i64 o.v) ((CM.block x X5.xlt).trans X5.box);rw [← hw,bf.out] at Uq;have QW:=(show w7.heap[nb]? =w6.heap[nb]? by rw [hw];exact (zq w6 ⟨x,10,none⟩ _).block nb (zg IF).1 fun e=> DU (Option.some.inj e)).trans IF
    have q9:Far x w5 w7:=(Far.of CM).tr (hw ▸ zml _);refine ⟨hS.tr (hw ▸ zml _),fun hS=> ?_⟩;clear hw IF E6 CM C5;exact wrZ
   ·intro w6 hw;have LC:=heap_setCell_same w5 x 10 _ _ (.int .i64 o.v) X5.box;rw [← hw,bf.out] at LC;have VK:w6.heap.size=w5.heap.size:=by rw [hw];exact World.size_setCell _ _ _
    have jh:Far x w5 w6:=hw ▸ zml _;clear hw;refine ⟨hS.tr jh,fun hS=> ?_⟩;refine so ?_;intro w7 hw;rw [vk.out] at hw;have QW:=zqG hw (C5.trans VK.symm);have L5:Below w6.heap.size w6 w7:=by rw [hw];exact zr.alloc zl _
    have Uq:=(L5.block x (zg LC).1).trans LC;have q9:=jh.tr (.of L5);rw [← C5];clear hw LC VK C5;refine ⟨hS.tr (.of L5),fun hS=> ?_⟩;exact wrZ
 ·rcases Br.out with ⟨-,CH⟩ | ⟨h0,-⟩
  ·have i1:((ew:Int) !=0)=true:=by rw [bne_iff_ne];omega
   clear o0 O;go_wp2_with fail;go_ret;exact ⟨by rw [CH];rfl,H1.out.1.bel.trans (AI.out.mono H1.out.1.bel.size),fun e=> absurd (by rw [CH] at e;exact e) hz⟩
  ·exact absurd h0 hz
end
section
open Go.RowKit
theorem zkL {w0 w:World} {p:Nat} {h:Ch} {a:StA} {cf:Cfg} {st:PS} {nb k:Nat} {Q:Nat→Prop} {x sq:Nat} {o:PO} {da:Option Addr} {dn dc:Nat} {ma:Option Addr} {mn mc:Nat} (H:EvC w0 w p h a cf st nb k Q x h (Chg.nil st.c sq) (.slice none 0 0) []) (AE:sq=st.seq+1) (hO:OpM w o da dn ma mn) (hR:PoR o) (hk:o.k=4):
 Calls Tryz.prog 26 #[.pointer (some ⟨p,0,none⟩), .pointer (some ⟨x,0,none⟩), .agg (opA o da dn dc ma mn mc)] w (EvE w0 Q x (zaz st.c st.l sq o)):=by
 obtain ⟨w1,Ab,hX,H1,Cm,HX,AU⟩:=evS H AE hO dc mc;have Al:=zh (fun (W:World) (hW:Below w1.heap.size w1 W)=> (H1.out.stw.below hW).reads);have CD:=zh (fun (W:World) (hW:Below w1.heap.size w1 W)=> (H1.out.chg.below hW).reads);obtain ⟨s0,s1,s2,s3,s4,s5,s6,s7,s8,s9,s10,s11,s12,s13,s14,s15,s16,s17,s18,s19,-⟩:=H1.out.stw.reads;obtain ⟨e0,e1,e2,e3,e4,e5,e6,e7,e8,e9,e10,e11,e12,e13,e14,-⟩:=H1.out.chg.reads;obtain ⟨o0,o1,o2,o3,o4,o5,o6,o7⟩:=rd8 (w:=w1) hX;clear H AE hO hX;have AK:=zh (zlQ (dc:=dc) (mc:=mc) H1.out HX.out.2.2.1 HX.out.2.2.2 (hR.vol (by omega)) (hR.place (by omega)) hk)
 unfold opA at AK;rw [hk] at AK;replace o0:=show w1.cell? ⟨w.heap.size,0,none⟩=some (.int .i64 o.k) from o0;rw [hk] at o0;clear hk hR Al CD s0 s1 s2 s3 s4 s5 s6 s7 s8 s9 s10 s11 s12 s13 s14 s15 s16 s17 s18 s19 e0 e1 e2 e3 e4 e5 e6 e7 e8 e9 e10 e11 e12 e13 e14;unfold opA at *;go_enter Tryz.func26,Tryz.ntmps26;go_upto_region 1 with fail;rw [← Ab];clear Ab;generalize hg:(zaz st.c st.l sq o)=ev at *;clear hg;go_wp2_with fail;refine AK.out.mono ?_;rintro r w3 hE;unfold EvE at hE;obtain ⟨rfl,hE⟩:=hE;have HG:=zh hE;clear hE AK;go_wp2_with fail;go_ret;unfold EvE;exact ⟨by first | rfl | trivial,HG.out⟩
theorem zkM {w0 w:World} {p:Nat} {h:Ch} {a:StA} {cf:Cfg} {st:PS} {nb k:Nat} {Q:Nat→Prop} {x sq:Nat} {o:PO} {da:Option Addr} {dn dc:Nat} {ma:Option Addr} {mn mc:Nat} (H:EvC w0 w p h a cf st nb k Q x h (Chg.nil st.c sq) (.slice none 0 0) []) (AE:sq=st.seq+1) (hO:OpM w o da dn ma mn) (hR:PoR o) (hk:o.k=5):
 Calls Tryz.prog 26 #[.pointer (some ⟨p,0,none⟩), .pointer (some ⟨x,0,none⟩), .agg (opA o da dn dc ma mn mc)] w (EvE w0 Q x (zaz st.c st.l sq o)):=by
 obtain ⟨w1,Ab,hX,H1,Cm,HX,AU⟩:=evS H AE hO dc mc;have Al:=zh (fun (W:World) (hW:Below w1.heap.size w1 W)=> (H1.out.stw.below hW).reads);have CD:=zh (fun (W:World) (hW:Below w1.heap.size w1 W)=> (H1.out.chg.below hW).reads);obtain ⟨s0,s1,s2,s3,s4,s5,s6,s7,s8,s9,s10,s11,s12,s13,s14,s15,s16,s17,s18,s19,-⟩:=H1.out.stw.reads;obtain ⟨e0,e1,e2,e3,e4,e5,e6,e7,e8,e9,e10,e11,e12,e13,e14,-⟩:=H1.out.chg.reads;obtain ⟨o0,o1,o2,o3,o4,o5,o6,o7⟩:=rd8 (w:=w1) hX;clear H AE hO hX;have AK:=zh (zlP (dc:=dc) (mc:=mc) H1.out HX.out.2.2.1 HX.out.2.2.2 (hR.vol (by omega)) (hR.place (by omega)) ⟨hk,hR.count (by omega)⟩)
 unfold opA at AK;rw [hk] at AK;replace o0:=show w1.cell? ⟨w.heap.size,0,none⟩=some (.int .i64 o.k) from o0;rw [hk] at o0;clear hk hR Al CD s0 s1 s2 s3 s4 s5 s6 s7 s8 s9 s10 s11 s12 s13 s14 s15 s16 s17 s18 s19 e0 e1 e2 e3 e4 e5 e6 e7 e8 e9 e10 e11 e12 e13 e14;unfold opA at *;go_enter Tryz.func26,Tryz.ntmps26;go_upto_region 1 with fail;rw [← Ab];clear Ab;generalize hg:(zaz st.c st.l sq o)=ev at *;clear hg;go_wp2_with fail;refine AK.out.mono ?_;rintro r w3 hE;unfold EvE at hE;obtain ⟨rfl,hE⟩:=hE;have HG:=zh hE;clear hE AK;go_wp2_with fail;go_ret;unfold EvE;exact ⟨by first | rfl | trivial,HG.out⟩
end
section
open Go.RowKit
set_option linter.unusedSectionVars false
set_option maxRecDepth 100000
set_option maxHeartbeats 16000000
theorem evZ {p:Prop} (h:p:=by
 clear S O E E3 hS
 go_wp2
 go_ret;refine ⟨rfl,(H1.out.1.bel.trans (Ae.mono H1.out.1.bel.size)).trans B3,fun e=> ⟨h2, .slice none 0 0, [], ?_⟩⟩;rcases Ba with ⟨rfl,-⟩ | ⟨-,h9⟩
 ·exact X3
 ·exact absurd e h9):p:=h
theorem evW {p:Prop} (h:p:=by
 clear S O E E3 hS
 go_wp2
 go_ret;exact ⟨rfl,(H1.out.1.bel.trans (Ae.mono H1.out.1.bel.size)).trans B3,fun e=> ⟨h2, .slice none 0 0, [],X3⟩⟩):p:=h
theorem evY {p:Prop} (h:p:=by
 clear S O E E3 hS
 go_wp2
 go_ret;refine ⟨congrArg (fun n:Nat=> Ending.returned (.int .i64 (n:Int))) dL.out.1,(H1.out.1.bel.trans (Ae.mono H1.out.1.bel.size)).trans B3,fun e=> ⟨h2, .slice none 0 0, [], ?_⟩⟩;rcases Ba with ⟨rfl,h9⟩ | ⟨-,h9⟩
 ·rw [dL.out.2 h9];exact X3
 ·exact absurd (dL.out.1.trans e) h9):p:=h
theorem evX {p:Prop} (h:p:=by
 unfold opA zcH zb8 Ch.val Ch.cells at *;rw [hk] at O Ab ⊢;clear H AE hO hR hk
 go_in
 go_wp2_with fail;rw [← Ab];clear Ab;refine rg (fun W=> Far x w1 W∧W.cell? ⟨x,14,none⟩=some (.int .u64 (sq:Int))) (fun hS=> ?_) ⟨.of hb,by rw [(E _ hb _).1];rfl⟩
 repeat refine tk ?_
 refine cl (HC.out _ hb) ?_
 first
 | (rintro _ w2 ⟨v,rfl,Eo,As⟩
    have q:=Eo.any;obtain ⟨h2,c2,rfl,Bd,Ba⟩:=q)
 | rintro _ w2 ⟨h2,rfl,Bd,As⟩
 try unfold Ch.cells
 have Ae:=hb.trans As;refine ⟨_,rfl,⟨.of Ae,by rw [(E _ Ae 14).1];rfl⟩,fun hS=> ?_⟩
 simp only [Act.put,List.setIfInBounds_toArray,List.set_cons_zero,List.set_cons_succ]
 repeat refine tk ?_
 refine su ?_;intro wS hw;have q:=ChM.lay9 hw (H1.out.1.chg.below Ae) Bd;obtain ⟨X3,F3,B3,E3⟩:=q;clear hw;simp only [zb8,Chg.nil] at E3;refine ⟨⟨hS.1.tr F3,by rw [(E3 wS zr 14).1];rfl⟩,fun hS=> ?_⟩
 repeat refine tk ?_
 first
 | (refine su ?_
    intro wT hw;have q:=ChM.lay1 hw X3;obtain ⟨X4,F4,B4⟩:=q;clear hw;refine ⟨⟨hS.1.tr F4,by rw [(X4.rd _ zr 14).1];rfl⟩,fun hS=> ?_⟩
    replace B3:=B3.trans B4;clear X3;have X3:=X4
    repeat refine tk ?_
    refine rz ?_;exact evZ)
 | (refine su ?_
    intro wT hw;have q:=ChM.lay13 hw X3;obtain ⟨X4,F4,B4⟩:=q;clear hw;refine ⟨⟨hS.1.tr F4,by rw [(X4.rd _ zr 14).1];rfl⟩,fun hS=> ?_⟩
    replace B3:=B3.trans B4;clear X3;have X3:=X4
    repeat refine tk ?_
    refine rz ?_;exact evW)
 | (refine rz ?_
    exact evY)):p:=h
section
attribute [local simp] Below.refl
variable {w0 w:World} {p:Nat} {h:Ch} {a:StA} {cf:Cfg} {st:PS} {nb k:Nat} {Q:Nat→Prop} {x sq:Nat} {o:PO} {da:Option Addr} {dn dc:Nat} {ma:Option Addr} {mn mc:Nat} (H:EvC w0 w p h a cf st nb k Q x h (Chg.nil st.c sq) (.slice none 0 0) []) (AE:sq=st.seq+1) (hO:OpM w o da dn ma mn) (hR:PoR o)
include H AE hO hR
theorem zkI (hk:o.k=1):
 Calls Tryz.prog 26 #[.pointer (some ⟨p,0,none⟩), .pointer (some ⟨x,0,none⟩), .agg (opA o da dn dc ma mn mc)] w (EvE w0 Q x (zb1 st.c sq o)):=by
 obtain ⟨w1,Ab,H1,S,O,E,hb⟩:=ev0 H hO dc mc;have C5:=hR.count (by omega)
 have FX:((o.n.toNat:Nat):Int)=o.n:=by omega
 have HC:=zh fun (W:World) (hW:Below w1.heap.size w1 W)=> zgd (H1.out.1.chg.cat.below hW) H.st.inv.ct (fun j hj=> cw H1.out.1 j hj hW) o.n.toNat sq (by omega)
 simp only [FX,Chg.nil] at HC;clear FX C5;exact evX
end
end
end Go.Proofs.YtfldlfladcfggaaGreat
