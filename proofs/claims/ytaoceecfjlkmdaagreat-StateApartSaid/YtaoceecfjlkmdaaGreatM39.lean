/- Lemmas of the walks, merged and pressed by press.py. Conditions: those of each theorem. -/
import Derived.Test.YtaoceecfjlkmdaaGreatM29
import Derived.Test.YtaoceecfjlkmdaaGreatM34
import Derived.Test.YtaoceecfjlkmdaaGreatM35
import Derived.Test.YtaoceecfjlkmdaaGreatM38
import Derived.Test.YtaoceecfjlkmdaaGreatM36
set_option maxRecDepth 100000
set_option maxHeartbeats 64000000
set_option linter.all false
namespace Go.Proofs.YtaoceecfjlkmdaaGreat
open Tryz
section
open Go.RowKit
def ct0:Ct:=⟨0,0,0,0, [], [], [], [], []⟩
def ch0:Ch:=⟨none,0, [],none,0, [],none,0, [],none,0,none,0⟩
theorem znV (Q:Nat->Prop) (w:World):zaV Q w ch0 ct0:=
 ⟨⟨⟨zM.nil _ _ _ _,fun _ _ e=> by cases e⟩,by simp [ch0]⟩,rfl,⟨⟨zM.nil _ _ _ _,fun _ _ e=> by cases e⟩,by simp [ch0]⟩,rfl,⟨⟨zM.nil _ _ _ _,fun _ _ e=> by cases e⟩,by simp [ch0]⟩,rfl,⟨zM.nil _ _ _ _,fun _ _ e=> by cases e⟩,⟨zM.nil _ _ _ _,fun _ _ e=> by cases e⟩⟩
theorem znA.any {Q:Nat->Prop} {w:World} {v:Value} {e:Nat} {c:Ct} (h:znA Q w v e c):∃h' c',v= .agg (Ch.cells h' c')/\zaV Q w h' c'/\(c'=c/\e=0\/c'=ct0/\e≠0):=by
 rcases h with ⟨he,cs,rfl,rfl⟩ | ⟨rfl,h',rfl,hr⟩
 ·exact ⟨ch0,ct0,rfl,znV Q w, .inr ⟨rfl,he⟩⟩
 exact ⟨h',c,rfl,hr, .inl ⟨rfl,rfl⟩⟩
theorem CtI.few {c:Ct} {s k:Nat} (h:CtI c s k):c.groups.length<=8/\c.books.length<=8/\(∀x ∈ c.groups,x.ms.length<=8)/\∀x ∈ c.books,x.ms.length<=8:=⟨by have:=h.glen;omega,h.blen,fun x hx=> (h.groups x hx).2.len,fun x hx=> (h.books x hx).2.2.len⟩
theorem few0:ct0.groups.length<=8/\ct0.books.length<=8/\(∀x ∈ ct0.groups,x.ms.length<=8)/\∀x ∈ ct0.books,x.ms.length<=8:=⟨by decide,by decide,fun x hx=> (by cases hx),fun x hx=> (by cases hx)⟩
theorem zcX {α:Type} (p:α->Bool) (l:List α):(l.findIdx? p).isSome=(l.find? p).isSome:=by
 rw [List.findIdx?_isSome,Bool.eq_iff_iff,List.any_eq_true,List.find?_isSome]
theorem ChM.cat9 {Q:Nat->Prop} {B:Nat} {w:World} {x:Nat} {h h':Ch} {g:Chg} {pv:Value} {pl:List Ph} (X:ChM Q B w x h g pv pl) {c':Ct} (hc:zaV (fun j=> Q j\/j=x\/pv.ownBlock=some j) w h' c'):
 ChM Q B ((((((((((w.setCell ⟨x,0,none⟩ (.int .i64 (c'.nv:Int))).setCell ⟨x,1,none⟩ (.int .i64 (c'.ng:Int))).setCell ⟨x,2,none⟩ (.int .i64 (c'.nb:Int))).setCell ⟨x,3,none⟩ (.int .u64 (c'.fl:Int))).setCell ⟨x,4,none⟩ (.slice h'.va c'.vols.length h'.vc)).setCell ⟨x,5,none⟩ (.slice h'.ga c'.groups.length h'.gc)).setCell ⟨x,6,none⟩ (.slice h'.ba c'.books.length h'.bc)).setCell ⟨x,7,none⟩ (.slice h'.ka c'.kept.length h'.kc)).setCell ⟨x,8,none⟩ (.slice h'.ta c'.times.length h'.tc))) x h' {g with c:=c'} pv pl:=by
 have t:∀{X Y:World} (i:Nat) (v:Value),X.grownBy Y (some x)->X.grownBy (Y.setCell ⟨x,i,none⟩ v) (some x):=fun i v h=> h.trans (zq _ ⟨x,i,none⟩ v);refine X.turn ?_ (t 8 _ (t 7 _ (t 6 _ (t 5 _ (t 4 _ (t 3 _ (t 2 _ (t 1 _ (t 0 _ (World.grownBy.refl _ _)))))))))) hc rfl;have e0:=X.box;unfold zb8 at e0 ⊢;have e1:=heap_setCell_same _ x 0 _ _ (.int .i64 (c'.nv:Int)) e0;simp only [zSs] at e1;have e2:=heap_setCell_same _ x 1 _ _ (.int .i64 (c'.ng:Int)) e1;simp only [zSs] at e2;have e3:=heap_setCell_same _ x 2 _ _ (.int .i64 (c'.nb:Int)) e2;simp only [zSs] at e3;have e4:=heap_setCell_same _ x 3 _ _ (.int .u64 (c'.fl:Int)) e3;simp only [zSs] at e4;have e5:=heap_setCell_same _ x 4 _ _ (.slice h'.va c'.vols.length h'.vc) e4;simp only [zSs] at e5;have e6:=heap_setCell_same _ x 5 _ _ (.slice h'.ga c'.groups.length h'.gc) e5;simp only [zSs] at e6;have e7:=heap_setCell_same _ x 6 _ _ (.slice h'.ba c'.books.length h'.bc) e6;simp only [zSs] at e7;have e8:=heap_setCell_same _ x 7 _ _ (.slice h'.ka c'.kept.length h'.kc) e7;simp only [zSs] at e8;have e9:=heap_setCell_same _ x 8 _ _ (.slice h'.ta c'.times.length h'.tc) e8;simp only [zSs] at e9;exact e9
theorem zam {w:World} {a b:Addr} {u v:Value} (h:w.cell? b=some u) (hn:a.block≠b.block):(w.setCell a v).cell? b=some u:=(World.cell?_setCell_far w a b v hn).trans h
theorem ChM.cell1 {Q:Nat->Prop} {B:Nat} {w:World} {x:Nat} {h:Ch} {g g':Chg} {pv:Value} {pl:List Ph} (X:ChM Q B w x h g pv pl) {i:Nat} {v:Value} (he:(zb8 h g pv).setIfInBounds i v=zb8 h g' pv) (hc:g'.c=g.c) (hp:g'.puts=g.puts):ChM Q B (w.setCell ⟨x,i,none⟩ v) x h g' pv pl:=by
 refine X.turn ?_ (zq w ⟨x,i,none⟩ v) (by rw [hc];exact X.cat) hp
 rw [<- he];exact heap_setCell_same w x i _ _ v X.box
theorem ChM.id1 {Q:Nat->Prop} {B:Nat} {w:World} {x:Nat} {h:Ch} {g:Chg} {pv:Value} {pl:List Ph} (X:ChM Q B w x h g pv pl) (n:Nat):ChM Q B (w.setCell ⟨x,9,none⟩ (.int .i64 (n:Int))) x h {g with id:=n} pv pl:=X.cell1 rfl rfl rfl
theorem ChM.vol1 {Q:Nat->Prop} {B:Nat} {w:World} {x:Nat} {h:Ch} {g:Chg} {pv:Value} {pl:List Ph} (X:ChM Q B w x h g pv pl) (n:Nat):ChM Q B (w.setCell ⟨x,10,none⟩ (.int .i64 (n:Int))) x h {g with vol:=n} pv pl:=X.cell1 rfl rfl rfl
theorem ChM.drop1 {Q:Nat->Prop} {B:Nat} {w:World} {x:Nat} {h:Ch} {g:Chg} {pv:Value} {pl:List Ph} (X:ChM Q B w x h g pv pl) (n:Nat):ChM Q B (w.setCell ⟨x,12,none⟩ (.int .i64 (n:Int))) x h {g with drop:=n} pv pl:=X.cell1 rfl rfl rfl
theorem ChM.prune1 {Q:Nat->Prop} {B:Nat} {w:World} {x:Nat} {h:Ch} {g:Chg} {pv:Value} {pl:List Ph} (X:ChM Q B w x h g pv pl) (b:Bool):ChM Q B (w.setCell ⟨x,13,none⟩ (.bool b)) x h {g with prune:=b} pv pl:=X.cell1 rfl rfl rfl
abbrev Far (x:Nat):=zD fun j=> j=x
theorem Far.of {x:Nat} {w W:World} (h:Below w.heap.size w W):Far x w W:=zD.of_below h
theorem Far.tr {x:Nat} {w W U:World} (h:Far x w W) (k:Far x W U):Far x w U:=zD.trans h k fun _ e=> .inl e
theorem zml {x i:Nat} {w:World} (v:Value):Far x w (w.setCell ⟨x,i,none⟩ v):=zD.turn (zq w ⟨x,i,none⟩ v) rfl
section
variable {w0 w:World} {p:Nat} {h:Ch} {a:StA} {cf:Cfg} {st:PS} {nb k:Nat} {Q:Nat→Prop} {x sq:Nat} {o:PO} {da:Option Addr} {dn:Nat} {ma:Option Addr} {mn:Nat}
theorem ev0 (H:EvC w0 w p h a cf st nb k Q x h (Chg.nil st.c sq) (.slice none 0 0) []) (hO:OpM w o da dn ma mn) (dc mc:Nat):
 ∃w1,w1=w.alloc (.cells (opA o da dn dc ma mn mc) 40)/\Hid (EvC w0 w1 p h a cf st nb k Q x h (Chg.nil st.c sq) (.slice none 0 0) []/\OpM w1 o da dn ma mn)/\
  (∀W,Far x w1 W->∀i,W.cell? ⟨p,i,none⟩=(zcH h a cf st)[i]? /\W.frozen? ⟨p,i,none⟩=false)/\(∀W,Far x w1 W->∀i,W.cell? ⟨w.heap.size,i,none⟩=(opA o da dn dc ma mn mc)[i]? /\W.frozen? ⟨w.heap.size,i,none⟩=false)/\
  (∀W,Below w1.heap.size w1 W->∀i,W.cell? ⟨x,i,none⟩=(zb8 h (Chg.nil st.c sq) (.slice none 0 0))[i]? /\W.frozen? ⟨x,i,none⟩=false)/\Below w1.heap.size w1 w1.drew:=by
 have Aa:Below w.heap.size w (w.alloc (.cells (opA o da dn dc ma mn mc) 40)):=zr.alloc zl _;have H1:=H.below Aa;have CI:=H.chg.xlt;refine ⟨_,rfl,⟨H1,hO.below Aa⟩,fun W hW=> rdA ((hW.block p H1.stw.plt ?_).trans H1.stw.box),fun W hW=> rdA ((hW.block _ (by simp) (by omega)).trans (heap_alloc_new w _)),fun W hW=> rdA ((hW.block _ H1.chg.xlt).trans H1.chg.box),zr.drew⟩
 intro e;have:=H.chg.lo;have:=H.st.plt
 omega
theorem ev1 {W:World} (H1:Hid (EvC w0 w p h a cf st nb k Q x h (Chg.nil st.c sq) (.slice none 0 0) []/\OpM w o da dn ma mn)) (hb:Below w.heap.size w W):
 ∃W',W'=W/\Hid (EvC w0 W p h a cf st nb k Q x h (Chg.nil st.c sq) (.slice none 0 0) []/\OpM W o da dn ma mn)/\(∀U,Below W.heap.size W U->∀i,U.cell? ⟨x,i,none⟩=(zb8 h (Chg.nil st.c sq) (.slice none 0 0))[i]? /\U.frozen? ⟨x,i,none⟩=false)/\Below W.heap.size W W.drew:=
 ⟨_,rfl,⟨H1.1.below hb,H1.2.below hb⟩,fun U hU=> rdA ((hU.block _ (H1.1.below hb).chg.xlt).trans (H1.1.below hb).chg.box),zr.drew⟩
theorem cw {hc:Ch} {g:Chg} {pv:Value} {pl:List Ph} (H:EvC w0 w p h a cf st nb k Q x hc g pv pl) (j:Nat) (hj:Q j\/j=x\/pv.ownBlock=some j) {W:World} (hW:Below w.heap.size w W):j < W.heap.size:=by
 refine zt ?_ hW.size;rcases hj with hj | hj | hj
 ·exact H.stw.qlt j hj
 ·rw [hj];exact H.chg.xlt
 exact (H.chg.puts.lt j hj).2
end
section
variable {Q:Nat→Prop} {B:Nat} {w wS:World} {x:Nat} {h h':Ch} {g:Chg} {pv:Value} {pl:List Ph}
theorem ChM.rd (X:ChM Q B w x h g pv pl):∀W,Below w.heap.size w W->∀i,W.cell? ⟨x,i,none⟩=(zb8 h g pv)[i]? /\W.frozen? ⟨x,i,none⟩=false:=fun W hW=> rdA ((hW.block _ X.xlt).trans X.box)
theorem ChM.lay1 {n:Nat} (e:wS=w.setCell ⟨x,9,none⟩ (.int .i64 (n:Int))) (X:ChM Q B w x h g pv pl):ChM Q B wS x h {g with id:=n} pv pl/\Far x w wS/\Below B w wS:=by
 subst e;exact ⟨X.id1 n,zml _,(Below.refl B w).setCell (p:=⟨x,9,none⟩) X.lo _⟩
theorem ChM.lay13 {b:Bool} (e:wS=w.setCell ⟨x,13,none⟩ (.bool b)) (X:ChM Q B w x h g pv pl):ChM Q B wS x h {g with prune:=b} pv pl/\Far x w wS/\Below B w wS:=by
 subst e;exact ⟨X.prune1 b,zml _,(Below.refl B w).setCell (p:=⟨x,13,none⟩) X.lo _⟩
theorem ChM.lay10 {n:Nat} (e:wS=w.setCell ⟨x,10,none⟩ (.int .i64 (n:Int))) (X:ChM Q B w x h g pv pl):ChM Q B wS x h {g with vol:=n} pv pl/\Far x w wS/\Below B w wS:=by
 subst e;exact ⟨X.vol1 n,zml _,(Below.refl B w).setCell (p:=⟨x,10,none⟩) X.lo _⟩
theorem ChM.lay12 {z:Int} (e:wS=w.setCell ⟨x,12,none⟩ (.int .i64 z)) (X:ChM Q B w x h g pv pl) (hz:0<=z:=by omega):ChM Q B wS x h {g with drop:=z.toNat} pv pl/\Far x w wS/\Below B w wS:=by
 obtain ⟨n,rfl⟩:=Int.eq_ofNat_of_zero_le hz;subst e;exact ⟨X.drop1 n,zml _,(Below.refl B w).setCell (p:=⟨x,12,none⟩) X.lo _⟩
theorem ChM.lay9 {c':Ct} (e:wS=((((((((((w.setCell ⟨x,0,none⟩ (.int .i64 (c'.nv:Int))).setCell ⟨x,1,none⟩ (.int .i64 (c'.ng:Int))).setCell ⟨x,2,none⟩ (.int .i64 (c'.nb:Int))).setCell ⟨x,3,none⟩ (.int .u64 (c'.fl:Int))).setCell ⟨x,4,none⟩ (.slice h'.va c'.vols.length h'.vc)).setCell ⟨x,5,none⟩ (.slice h'.ga c'.groups.length h'.gc)).setCell ⟨x,6,none⟩ (.slice h'.ba c'.books.length h'.bc)).setCell ⟨x,7,none⟩ (.slice h'.ka c'.kept.length h'.kc)).setCell ⟨x,8,none⟩ (.slice h'.ta c'.times.length h'.tc))))
 (X:ChM Q B w x h g pv pl) (hc:zaV (fun j=> Q j\/j=x\/pv.ownBlock=some j) w h' c'):ChM Q B wS x h' {g with c:=c'} pv pl/\Far x w wS/\Below B w wS/\∀W,Below wS.heap.size wS W->∀i,W.cell? ⟨x,i,none⟩=(zb8 h' {g with c:=c'} pv)[i]? /\W.frozen? ⟨x,i,none⟩=false:=by
 have X3:=X.cat9 hc;rw [<- e] at X3;have t:∀{Y:World} (i:Nat) (v:Value),Far x w Y->Far x w (Y.setCell ⟨x,i,none⟩ v):=fun i v h=> h.tr (zml v);exact ⟨X3,e ▸ t 8 _ (t 7 _ (t 6 _ (t 5 _ (t 4 _ (t 3 _ (t 2 _ (t 1 _ (t 0 _ (zD.refl _ w))))))))),e ▸ zG (Below.refl B w) X.lo _ _ _ _ _ _ _ _ _,X3.rd⟩
end
theorem lay9c {w wS:World} {cb B:Nat} {h':Ch} {c':Ct} {o0 o1 o2 o3 o4 o5 o6 o7 o8:Value} {t:TypeId} (e:wS=((((((((((w.setCell ⟨cb,0,none⟩ (.int .i64 (c'.nv:Int))).setCell ⟨cb,1,none⟩ (.int .i64 (c'.ng:Int))).setCell ⟨cb,2,none⟩ (.int .i64 (c'.nb:Int))).setCell ⟨cb,3,none⟩ (.int .u64 (c'.fl:Int))).setCell ⟨cb,4,none⟩ (.slice h'.va c'.vols.length h'.vc)).setCell ⟨cb,5,none⟩ (.slice h'.ga c'.groups.length h'.gc)).setCell ⟨cb,6,none⟩ (.slice h'.ba c'.books.length h'.bc)).setCell ⟨cb,7,none⟩ (.slice h'.ka c'.kept.length h'.kc)).setCell ⟨cb,8,none⟩ (.slice h'.ta c'.times.length h'.tc))))
 (Ay:w.heap[cb]? =some (.cells #[o0,o1,o2,o3,o4,o5,o6,o7,o8] t (0,0))) (hB:B<=cb):zD (fun j=> j=cb) w wS/\Below B w wS/\wS.heap[cb]? =some (.cells (h'.cells c') t (0,0)):=by
 have hs:=zp4 Ay h' c';rw [<- e] at hs;exact ⟨e ▸ zae (zD.refl _ w) rfl _ _ _ _ _ _ _ _ _,e ▸ zG (Below.refl B w) hB _ _ _ _ _ _ _ _ _,hs⟩
theorem EvC.push {w0 w w4:World} {p:Nat} {h:Ch} {a:StA} {cf:Cfg} {st:PS} {nb k:Nat} {Q:Nat->Prop} {x:Nat} {hc:Ch} {g:Chg} {pv:Value} {pl:List Ph} (H:EvC w0 w p h a cf st nb k Q x hc g pv pl) (y:Ph) (hd:∀z,y.d=some z->Bs w (some ⟨z.1,0,none⟩) 64 z.2/\¬(Q z.1\/z.1=x\/pv.ownBlock=some z.1)) (hl:g.puts.length<=1000) (hF:Far x w4 w) (hn:∀j,pv.ownBlock=some j->w4.heap.size<=j):
 ∃ v' w',(Builtin.append_ #[79,79] 79 #[pv, .slice (some ⟨w.heap.size,0,none⟩) 1 1]).run Tryz.prog (w.alloc (.cells (zaT y).toArray 91))= .ok v' w'/\((∃a n c,v'= .slice a n c)/\∃a n c,pv= .slice a n c)/\
   ((w'.cell? ⟨x,11,none⟩=some pv/\w'.frozen? ⟨x,11,none⟩=false)/\w.cell? ⟨x,11,none⟩=some pv/\(w.alloc (.cells (zaT y).toArray 91)).cell? ⟨x,11,none⟩=some pv)/\
   EvC w0 (w'.setCell ⟨x,11,none⟩ v') p h a cf st nb k Q x hc {g with puts:=g.puts++ [y.pu]} v' (pl++ [y])/\Far x w4 (w'.setCell ⟨x,11,none⟩ v')/\∀j,v'.ownBlock=some j->w4.heap.size<=j:=by
 obtain ⟨v',w',hr,k1,k3,hf,Kr,E7,Cv,Af⟩:=H.chg.push H.stw.qlt y hd (by have:=congrArg List.length H.chg.map;rw [List.length_map] at this;omega) H.bel.size
 exact ⟨v',w',hr,⟨hf,H.chg.puts.form⟩,⟨k1,cell_of_row w _ 11 _ _ _ H.chg.box,k3⟩,⟨H.st,H.bel.trans E7,Kr⟩,hF.trans Cv fun j hj=> hj.imp id (hn j),fun j hj=> (Af j hj).elim (hn j) fun e=> by have:=hF.size;omega⟩
structure Bx (p:Prop):Prop where
 out:p
def QX (Q:Nat->Prop) (x:Nat) (j:Nat):Prop:=Q j\/j=x\/(Value.slice none 0 0).ownBlock=some j
theorem caF {p:Prop} (h:p:=by
 have H8:cb≠x:=fun e=> by have:=H1.out.1.chg.xlt;omega
 have dP:=zh fun (W:World) (hW:Far x w4 W)=> (show W.heap[cb]? =some (.cells (h2.cells c2) 54 (0,0)) from (hW.block cb (zg Ek).1 H8).trans Ek);have R4:∀W,Far x w4 W->∀i,W.cell? ⟨cb,i,none⟩=(h2.cells c2)[i]? /\W.frozen? ⟨cb,i,none⟩=false:=fun W hW=> rdA (dP.out W hW);have Cz:=zh Ar;replace S:=fun W (hW:Far x w4 W)=> S W ((Far.of Cz.out).tr hW);replace O:=fun W (hW:Far x w4 W)=> O W ((Far.of Cz.out).tr hW);unfold Ch.cells at R4 dP;clear Ar Ek H8 AN;exact tl2.out):p:=h
def CutC (Q:Nat->Prop) (x:Nat) (w1:World) (ec:Nat) (cn:Ct) (u v:Value) (w4:World):Prop:=∃cb h2 c2,u= .pointer (some ⟨cb,0,none⟩)/\v= .int .i64 (ec:Int)/\Below w1.heap.size w1 w4/\w1.heap.size<=cb/\w4.heap[cb]? =some (.cells (Ch.cells h2 c2) 54 (0,0))/\zaV (QX Q x) w4 h2 c2/\(c2=cn/\ec=0\/c2=ct0/\ec≠0)
theorem caM {p:Prop} (h:p:=by
 go_wp2_with fail
 go_meet
 case rel=> first | exact ⟨cb,h2,c2,rfl,rfl,Ar,AN,Ek,X2,Ba⟩ | exact ⟨rfl,cb,h2,c2,rfl,rfl,Ar,AN,Ek,X2,Ba⟩):p:=h
theorem caE {p:Prop} (h:p:=by
 have R3:=rdA Ay;refine su ?_;clear R3;intro w4 hw;have q:=lay9c hw Ay AN;obtain ⟨F4,B4,Ek⟩:=q;clear hw Ay;have Ar:=Am.trans B4;have X2:=G4.outs (Q':=QX Q x) (F4.more fun j hj=> .inr hj) fun j hj=> .inl (.inl hj);clear G4 F4 B4 Am;refine ⟨sW.out _ Ar,fun hS=> ?_⟩
 repeat refine tk ?_
 refine rz ?_;clear hS sW;exact tl.out):p:=h
theorem caA {p:Prop} (h:p:=by
 rintro _ w2 ⟨v,rfl,Eo,As⟩;have q:=Eo.any;obtain ⟨h2,c2,rfl,Bd,Ba⟩:=q;unfold Ch.cells;have Ae:=hb.trans As;refine ⟨_,rfl,sW.out _ Ae,fun hS=> ?_⟩
 repeat refine tk ?_
 refine so ?_;intro w3 hw;have Am:Below w1.heap.size w1 w3:=by rw [hw];exact Ae.alloc Ae.size _
 obtain ⟨cb,An⟩:∃cb,cb=w2.heap.size:=⟨_,rfl⟩;rw [<- An];have Ay:w3.heap[cb]? =some (.cells #[.int .i64 0, .int .i64 0, .int .i64 0, .int .u64 0, .slice none 0 0, .slice none 0 0, .slice none 0 0, .slice none 0 0, .slice none 0 0] 54 (0,0)):=by rw [hw,An];exact heap_alloc_new w2 _
 have AN:w1.heap.size<=cb:=An ▸ Ae.size;have G4:=Bd.outs (zD.of_below (show Below w2.heap.size w2 w3 by rw [hw];exact zr.alloc zl _)) (Q':=fun j=> QX Q x j\/j=cb) fun j hj=> hj.imp id fun e=> by rw [e,An];exact zl
 clear hw An Bd As Ae Eo;refine ⟨sW.out _ Am,fun hS=> ?_⟩
 repeat refine tk ?_
 exact caE):p:=h
theorem caB {p:Prop} (h:p:=by
 intro w2 hw;have Ae:Below w1.heap.size w1 w2:=by rw [hw];exact hb.alloc hb.size _
 obtain ⟨cb,An⟩:∃cb,cb=w1.heap.size:=⟨_,rfl⟩;rw [<- An];have Ay:w2.heap[cb]? =some (.cells #[.int .i64 0, .int .i64 0, .int .i64 0, .int .u64 0, .slice none 0 0, .slice none 0 0, .slice none 0 0, .slice none 0 0, .slice none 0 0] 54 (0,0)):=by rw [hw,An];exact heap_alloc_new w1 _
 have AN:w1.heap.size<=cb:=Nat.le_of_eq An.symm;have hlt:=(zg Ay).1;clear hw;refine ⟨sW.out _ Ae,fun hS=> ?_⟩;refine cl (HC.out _ Ae (fun j=> QX Q x j\/j=cb) (fun j hj=> hj.imp id fun e=> by rw [e];exact AN) (fun j hj=> hj.elim (fun h=> cw H1.out.1 j h Ae) fun e=> by rw [e];exact hlt)) ?_
 rintro _ w3 ⟨v,rfl,Eo,As⟩;have q:=Eo.any;obtain ⟨h2,c2,rfl,G4,Ba⟩:=q;unfold Ch.cells;have Am:=Ae.trans (As.mono Ae.size);replace Ay:=(As.block cb hlt).trans Ay;clear As Ae hlt Eo An;refine ⟨_,rfl,sW.out _ Am,fun hS=> ?_⟩
 repeat (first | refine sk ?_ | refine tk ?_)
 exact caE):p:=h
theorem zk8 {α:Type} {p:α->Bool} {l:List α} {c:Nat} {r:Nat × Chg} {g g':Chg} (hc:c≠0) (h0:l.find? p=none->r=(c,g)) (h1:∀x,l.find? p=some x->r=(0,g')):zkE (l.findIdx? p) c=r.1/\(zkE (l.findIdx? p) c=0->r.2=g'):=by
 have h:=zcX p l
 cases hf:l.find? p with
 | none=>
   cases hi:l.findIdx? p with
   | none=> rw [h0 hf];exact ⟨rfl,fun e=> absurd e hc⟩
   | some i=> rw [hf,hi] at h;cases h
 | some x=>
   cases hi:l.findIdx? p with
   | none=> rw [hf,hi] at h;cases h
   | some i=> rw [h1 x hf];exact ⟨rfl,fun _=> rfl⟩
end
section
open Go.RowKit
set_option maxRecDepth 100000
set_option maxHeartbeats 16000000
set_option linter.unusedSectionVars false
theorem zo9 (c:Ct) (s:Nat) (o:PO):zkE (c.vols.findIdx? fun x=> decide ((x.id:Int)=o.v)) 40=(zbh c s o).1/\(zkE (c.vols.findIdx? fun x=> decide ((x.id:Int)=o.v)) 40=0->(zbh c s o).2={Chg.nil c s with c:=(c.delete o.v).forget o.v,drop:=o.v.toNat}):=
 zk8 (g:=Chg.nil c s) (by decide) (fun h=> by unfold zbh Ct.find;rw [h]) fun x h=> by unfold zbh Ct.find;rw [h]
attribute [local simp] Below.refl
theorem rmR {p:Prop} (h:p:=by
 have dQ:c2.groups.length<=8/\c2.books.length<=8/\(∀x ∈ c2.groups,x.ms.length<=8)/\∀x ∈ c2.books,x.ms.length<=8:=by
  rcases Ba with ⟨e,-⟩ | ⟨e,-⟩
  ·rw [e];exact DX.out.few
  rw [e];exact few0
 have HF:=zh fun (W:World) (hW:Below w4.heap.size w4 W)=> zkX (X2.below hW) (fun j hj=> cw H1.out.1 j hj (Cz.out.trans (hW.mono Cz.out.size))) dQ.1 dQ.2.1 dQ.2.2.1 dQ.2.2.2 o.v;unfold Ch.val Ch.cells at HF;have Ag:=(Below.refl w4.heap.size w4).drew;clear dQ;go_wp2_with fail;refine rg (fun W=> Far x w4 W) (fun hS=> ?_) (.of Ag)
 repeat refine tk ?_
 refine te 6 ?_;refine te 7 ?_;refine cl (HF.out _ Ag) ?_;rintro _ w6 ⟨h3,rfl,Vb,O9⟩;have AT:=Ag.trans O9;have XI:=Cz.out.trans (AT.mono Cz.out.size);refine ⟨_,rfl, .of AT,fun hS=> ?_⟩
 repeat (first | refine sk ?_ | refine tk ?_)
 refine su ?_;intro wS hw;have q:=ChM.lay9 hw (H1.out.1.chg.below XI) Vb;obtain ⟨X3,F3,B3,E3⟩:=q;clear hw;simp only [zb8,Chg.nil] at E3;refine ⟨hS.tr F3,fun hS=> ?_⟩
 repeat (first | refine sk ?_ | refine tk ?_)
 refine su ?_;intro wT hw;have q:=ChM.lay12 hw X3 (by have:=HV.out.1;omega)
 obtain ⟨X4,F4,B4⟩:=q;clear hw;refine ⟨hS.tr F4,fun hS=> ?_⟩;refine rz ?_;clear hS S O E E3
 go_wp2
 go_ret;refine ⟨congrArg (fun n:Nat=> Ending.returned (.int .i64 (n:Int))) HV.out.2.1,((H1.out.1.bel.trans (XI.mono H1.out.1.bel.size)).trans B3).trans B4,fun e=> ⟨h3, .slice none 0 0, [], ?_⟩⟩;rcases Ba with ⟨rfl,h9⟩ | ⟨-,h9⟩
 ·rw [HV.out.2.2 h9];exact X4
 exact absurd (HV.out.2.1.trans e) h9):p:=h
theorem zjp {w0 w:World} {p:Nat} {h:Ch} {a:StA} {cf:Cfg} {st:PS} {nb k:Nat} {Q:Nat->Prop} {x sq:Nat} {o:PO} {da:Option Addr} {dn dc:Nat} {ma:Option Addr} {mn mc:Nat} (H:EvC w0 w p h a cf st nb k Q x h (Chg.nil st.c sq) (.slice none 0 0) []) (AE:sq=st.seq+1) (hO:OpM w o da dn ma mn) (hv:1<=o.v):
 Calls Tryz.prog 53 #[.pointer (some ⟨p,0,none⟩), .pointer (some ⟨x,0,none⟩), .agg (opA o da dn dc ma mn mc)] w (EvE w0 Q x (zbh st.c sq o)):=by
 obtain ⟨w1,Ab,H1,S,O,E,hb⟩:=ev0 H hO dc mc;have HC:=zh fun (W:World) (hW:Below w1.heap.size w1 W) (R:Nat->Prop) (hR:∀j,R j->QX Q x j\/w1.heap.size<=j) (B0:∀j,R j->j < W.heap.size)=> zjq (H1.out.1.chg.cat.outs (zD.of_below hW) hR) H.st.inv.ct B0 o.v;have DX:=zh H.st.inv.ct;have HV:=zh (zn hv (zo9 st.c sq o));have tl:=Bx.mk @caF;have tl2:=Bx.mk @rmR;have sW:=zh fun W (h:Below w1.heap.size w1 W)=> (Far.of h:Far x w1 W);simp only [Chg.nil] at HC;unfold opA zcH zb8 Ch.val Ch.cells at *;clear H AE hO hv
 go_in
 go_wp2_with fail;rw [<- Ab];clear Ab;refine rg (fun W=> Far x w1 W) (fun hS=> ?_) (sW.out _ hb)
 repeat refine tk ?_
 refine ca 10 (HC.out _ hb (QX Q x) (fun _=> .inl) (cw H1.out.1 · · hb)) ?_ ?_
 ·exact caA
 exact caB
end
section
open Go.RowKit
set_option maxRecDepth 100000
set_option maxHeartbeats 16000000
set_option linter.unusedSectionVars false
theorem zgS (c:Ct) (l:List En) (s:Nat) (o:PO):(rzE c o.v s o.n.toNat=0/\∃y,c.find o.v=some y/\za6 c l s o=(0,{Chg.nil c s with c:=rzC c o.v s o.n.toNat,vol:=o.v.toNat,puts:=zaL l o.v.toNat (s - 1) o.n.toNat (zas y.sizes - o.n.toNat)}))\/(rzE c o.v s o.n.toNat≠0/\za6 c l s o=(rzE c o.v s o.n.toNat,Chg.nil c s)):=by
 unfold rzE rzC za6
 cases c.find o.v with
 | none=> exact .inr ⟨by simp,rfl⟩
 | some y=>
   simp only
   by_cases h:(zbf y.sizes s o.n.toNat).1=0
   ·exact .inl ⟨h,y,rfl,by rw [if_neg (by omega)]⟩
   exact .inr ⟨h,by rw [if_pos h]⟩
attribute [local simp] Below.refl
theorem rzR {p:Prop} (h:p:=by
 have Ag:=(Below.refl w4.heap.size w4).drew;rcases Br.out with ⟨h0,y,hy,CH⟩ | ⟨h0,CH⟩
 ·have Mv:zo6 (st.c.find o.v)=0:=by rw [hy];rfl
  have AR:st.c.size o.v=zas y.sizes:=by unfold Ct.size;rw [hy]
  have MU:=zbR (DX.out.vols y (za0 hy).1).sizes;have Ln:=zh fun (W:World) (hW:Below w1.heap.size w1 W)=> zcI (H1.out.1.below hW).stw.cat DX.out o.v;rw [AR,Mv] at Ln;unfold Ch.val Ch.cells at Ln;have HE:=zh CH;obtain rfl:c2=cn:=Ba.elim (·.1) fun e=> absurd h0 e.2;generalize zas y.sizes=z at *;clear Mv AR hy CH Ba;subst h0;go_wp2_with fail;refine rg (fun W=> Far x w4 W) (fun hS=> ?_) (.of Ag)
  repeat refine tk ?_
  refine cl (Ln.out _ (Cz.out.trans (Ag.mono Cz.out.size))) ?_;rintro _ w5 ⟨rfl,hb⟩;have O8:=Ag.trans hb;refine ⟨_,rfl, .of O8,fun hS=> ?_⟩
  repeat refine tk ?_
  refine rz ?_;have O7:=Cz.out.trans (O8.mono Cz.out.size);have FG:=X2.below O8;have q:=zJ (dP.out w5 hS);obtain ⟨z0,z1,z2,z3,z4,z5,z6,z7,z8,-⟩:=q;have q:=(H1.out.1.chg.below O7).reads;obtain ⟨y0,y1,y2,y3,y4,y5,y6,y7,y8,-,-,-,-,-,-,yf⟩:=q;have o1:w5.cell? ⟨w.heap.size,1,none⟩=some (.int .i64 o.v):=(O w5 hS 1).1;clear hb Ag O8 X2 Ln R4;go_upto_region 6 with fail;generalize hw:World.setCell _ (⟨x,8,none⟩:Addr) _=wS;have q:=ChM.lay9 hw.symm (H1.out.1.chg.below O7) FG;obtain ⟨X3,F3,B3,-⟩:=q;have HH:=zh (zhU (p:=p) (a:=a) (cf:=cf) (st:=st) ⟨H1.out.1.st,(H1.out.1.bel.trans (O7.mono H1.out.1.bel.size)).trans B3,X3⟩ rfl o.v.toNat o.n.toNat z (by have:=HV.out;omega) (by have:=HV.out;omega) (by omega))
  simp only [show ((o.v.toNat:Nat):Int)=o.v by have:=HV.out;omega,show ((o.n.toNat:Nat):Int)=o.n by have:=HV.out;omega] at HH
  replace o1:wS.cell? ⟨w.heap.size,1,none⟩=some (.int .i64 o.v):=(O wS (hS.tr F3) 1).1;have o4:wS.cell? ⟨w.heap.size,4,none⟩=some (.int .i64 o.n):=(O wS (hS.tr F3) 4).1;clear X3 F3 B3 hw z0 z1 z2 z3 z4 z5 z6 z7 z8 y0 y1 y2 y3 y4 y5 y6 y7 y8 yf hS S O E;go_wp2_with fail;refine HH.out.mono ?_;rintro e w6 ⟨rfl,pv,pl,X6⟩;clear HH o1 o4;go_wp2_with fail;go_ret;exact ⟨by rw [HE.out];rfl,X6.bel,fun _=> ⟨h2,pv,pl,by rw [HE.out,show sq - 1=st.seq by have:=HV.out;omega];exact X6.chg⟩⟩
 clear Ag;go_wp2_with fail;go_ret;exact ⟨by rw [CH];rfl,H1.out.1.bel.trans (Cz.out.mono H1.out.1.bel.size),fun e=> absurd (by rw [CH] at e;exact e) h0⟩):p:=h
theorem zjr {w0 w:World} {p:Nat} {h:Ch} {a:StA} {cf:Cfg} {st:PS} {nb k:Nat} {Q:Nat->Prop} {x sq:Nat} {o:PO} {da:Option Addr} {dn dc:Nat} {ma:Option Addr} {mn mc:Nat} (H:EvC w0 w p h a cf st nb k Q x h (Chg.nil st.c sq) (.slice none 0 0) []) (AE:sq=st.seq+1) (hO:OpM w o da dn ma mn) (hv:1<=o.v/\o.v<=65535) (hn:1<=o.n/\o.n<=32):
 Calls Tryz.prog 54 #[.pointer (some ⟨p,0,none⟩), .pointer (some ⟨x,0,none⟩), .agg (opA o da dn dc ma mn mc)] w (EvE w0 Q x (za6 st.c st.l sq o)):=by
 obtain ⟨w1,Ab,H1,S,O,E,hb⟩:=ev0 H hO dc mc;have Br:=zh (zgS st.c st.l sq o);have HC:=zh fun (W:World) (hW:Below w1.heap.size w1 W) (R:Nat->Prop) (hR:∀j,R j->QX Q x j\/w1.heap.size<=j) (B0:∀j,R j->j < W.heap.size)=> zgt (H1.out.1.chg.cat.outs (zD.of_below hW) hR) H.st.inv.ct B0 o.v o.n.toNat sq (by omega)
 have DX:=zh H.st.inv.ct;have HV:=zh (zn hv (zn hn AE));have tl:=Bx.mk @caF;have tl2:=Bx.mk @rzR;have sW:=zh fun W (h:Below w1.heap.size w1 W)=> zn (Far.of h:Far x w1 W) (E W h 14).1;obtain ⟨cn,DR⟩:∃cn,rzC st.c o.v sq o.n.toNat=cn:=⟨_,rfl⟩;obtain ⟨ec,CG⟩:∃ec,rzE st.c o.v sq o.n.toNat=ec:=⟨_,rfl⟩;have FX:((o.n.toNat:Nat):Int)=o.n:=by omega
 simp only [Chg.nil,FX] at HC;rw [CG,DR] at Br HC;unfold opA zcH zb8 Ch.val Ch.cells at *;clear H AE hO hv hn DR CG FX
 go_in
 go_wp2_with fail;rw [<- Ab];clear Ab;refine rg (fun W=> Far x w1 W/\W.cell? ⟨x,14,none⟩=some (.int .u64 (sq:Int))) (fun hS=> ?_) (sW.out _ hb)
 repeat refine tk ?_
 refine ca 16 (HC.out _ hb (QX Q x) (fun _=> .inl) (cw H1.out.1 · · hb)) ?_ ?_
 ·exact caA
 exact caB
end
section
open Go.RowKit
def ziB (c:Ct) (i v:Int):Nat × Nat:=match c.book i with
 | none=> (43,0)
 | some b=> if v ∈ b.ms then (0,b.seq) else (40,0)
theorem zcx (tmps:Array Value) (B:Nat) (e7:Value) (v0 v1 v2:Value) (W:World) (h:tmps[6]? =some (.pointer (some ⟨B,0,none⟩))) (h7:tmps[7]? =some e7)
 (q:W.cell? ⟨B,0,none⟩=some v0/\W.cell? ⟨B,1,none⟩=some v1/\W.cell? ⟨B,2,none⟩=some v2):
 (results Tryz.f144 tmps).run Tryz.prog W= .ok (.tuple #[.agg #[v0,v1,v2],e7]) W:=by
 obtain ⟨q0,q1,q2⟩:=q;simp [results,Tryz.results144,go_sem,h,h7,q0,q1,q2]
theorem zmt {Q:Nat->Prop} {w:World} {h:Ch} {c:Ct} {s0 k:Nat} (hc:zaV Q w h c) (hi:CtI c s0 k) (id v:Int):
 Calls Tryz.prog 144 #[h.val c, .int .i64 id, .int .i64 v] w fun e w'=> ∃(z:Int) (ua:Option Addr) (un uc:Nat),e= .returned (.tuple #[.agg #[.int .i64 z, .int .u64 ((ziB c id v).2:Nat), .slice ua un uc], .int .i64 ((ziB c id v).1:Nat)])/\Below w.heap.size w w':=by
 obtain ⟨w1,Ab⟩:∃w1,w1=(w.alloc (.cells (h.cells c) 54)).alloc (.cells #[.int .i64 0, .int .u64 0, .slice none 0 0] 132):=⟨_,rfl⟩;have Aa:Below w.heap.size w w1:=by rw [Ab];exact (zr.alloc zl _).alloc (by simp) _
 have Ai:w1.heap.size=w.heap.size+2:=by rw [Ab,World.alloc_size,World.alloc_size]
 have hX:w1.heap[w.heap.size]? =some (.cells (h.cells c) 54 (0,0)):=by rw [Ab,Below.heap_alloc _ _ _ (by simp)];exact heap_alloc_new w _
 have hY:w1.heap[w.heap.size+1]? =some (.cells #[.int .i64 0, .int .u64 0, .slice none 0 0] 132 (0,0)):=by
  have:=heap_alloc_new (w.alloc (.cells (h.cells c) 54)) (.cells #[.int .i64 0, .int .u64 0, .slice none 0 0] 132);rw [World.alloc_size] at this;rw [Ab];exact this
 have hn:c.books.length<=8:=hi.blen;have HP:=zh (zgo (hc.below Aa) (by omega) id)
 have HC:=zh (zn hc (zn hi hn));have Ak:=zh (zn Aa (zn Ai (zn hX hY)));obtain ⟨x0,x1,x2,x3,x4,x5,x6,x7,x8,-⟩:=zaf hX;clear hc hi Aa Ai hX hY hn;unfold Ch.val at *;unfold Ch.cells at *;go_enter Tryz.func144,Tryz.ntmps144;go_upto_region 1 with fail;rw [<- Ab];clear Ab;go_wp2_with fail;refine HP.out.mono ?_;rintro e w2 ⟨rfl,Ae⟩;have A7:=(Ae.block w.heap.size (by have:=Ak.out.2.1;omega)).trans Ak.out.2.2.1
 have BD:=(Ae.block (w.heap.size+1) (by have:=Ak.out.2.1;omega)).trans Ak.out.2.2.2
 obtain ⟨x0,x1,x2,x3,x4,x5,x6,x7,x8,-⟩:=zaf (h:=h) (c:=c) A7;obtain ⟨y0,y1,y2,yf⟩:=zbb BD;have f0:=yf 0;have f1:=yf 1;have f2:=yf 2;have Dk:=Ak.out.1.trans (Ae.mono Ak.out.1.size);have Ap:=zh (zn Dk BD);have Hw:c.book id=c.books.find? fun x=> decide ((x.id:Int)=id):=rfl;have Fm:ziB c id v=match c.book id with
  | none=> (43,0)
  | some b=> if v ∈ b.ms then (0,b.seq) else (40,0):=rfl
 clear Ae HP yf
 cases hx:c.books.findIdx? fun x=> decide ((x.id:Int)=id) with
 | none=>
   rw [zbt hx] at Hw;rw [Hw] at Fm;have HE:=zh Fm;have Ad:=zlT BD (.int .i64 0) (.int .u64 0) (.slice none 0 0);have Au:=zaq Dk (show w.heap.size<=w.heap.size+1 by omega) (.int .i64 0) (.int .u64 0) (.slice none 0 0)
   have BU:=zh (zn Ad Au);clear Hw Fm hx A7 BD Ad Au Dk;go_wp2_with fail;obtain ⟨r0,r1,r2,-⟩:=zbb BU.out.1;refine bodyPost_ret (zcx _ (w.heap.size+1) _ _ _ _ _ rfl rfl ⟨r0,r1,r2⟩) rfl ?_;exact ⟨_,_,_,_,by rw [HE.out];rfl,BU.out.2⟩
 | some i=>
   obtain ⟨Kw,De⟩:=zbi hx;obtain ⟨b,hb⟩:∃b,c.books[i]? =some b:=⟨_,ze De⟩;rw [Kw,hb] at Hw;rw [Hw] at Fm;have Ac:h.bl.length=c.books.length:=by rw [<- HC.out.1.booksE,List.length_map]
   obtain ⟨x,Ut⟩:∃x,h.bl[i]? =some x:=⟨_,ze (by omega)⟩
   have IS:x.v=b:=by
    have h1:=congrArg (fun l=> l[i]?) HC.out.1.booksE;simp only [List.getElem?_map,Ut,Option.map_some,hb,Option.some.injEq] at h1;exact h1
   have Hx:=(HC.out.1.below Dk).books;obtain ⟨gb,go,FE,H8⟩:=Hx.row.row.2 i x Ut;have q0:=H8 0 _ rfl;have q1:=H8 1 _ rfl;have q2:=H8 2 _ rfl;simp only [Nat.add_zero] at q0;have AP:=Hx.sub x (zm Ut);have KJ:=(HC.out.2.1.books b (zm hb)).2.2.len;have Og:=zh (zer (c:=x.c) AP.row (by rw [IS];omega) v)
   rw [IS] at Og q0 q1 q2;have i0:(0:Int)<=(i:Int):=by omega
   have i1:(i:Int) < (c.books.length:Int):=by omega
   have i2:¬(i:Int) < 0:=by omega
   simp only [FE] at *;rw [show zf0 (some i)=(i:Int) from rfl]
   by_cases hm:v ∈ b.ms
   ·rw [if_pos hm] at Fm;rw [decide_eq_true hm] at Og;have HE:=zh Fm;have Ad:=zlT BD (.int .i64 (b.id:Int)) (.int .u64 (b.seq:Int)) (.slice x.a b.ms.length x.c);have Au:=zaq Dk (show w.heap.size<=w.heap.size+1 by omega) (.int .i64 (b.id:Int)) (.int .u64 (b.seq:Int)) (.slice x.a b.ms.length x.c)
    have BU:=zh (zn Ad Au);clear Hw Fm hx A7 BD Ad Au Dk Kw De hb Ac Ut IS Hx FE H8 AP KJ hm;go_wp2_with fail;refine Og.out.mono ?_;rintro e w3 ⟨rfl,rfl⟩;go_wp2_with fail;obtain ⟨r0,r1,r2,-⟩:=zbb BU.out.1;refine bodyPost_ret (zcx _ (w.heap.size+1) _ _ _ _ _ rfl rfl ⟨r0,r1,r2⟩) rfl ?_;exact ⟨_,_,_,_,by rw [HE.out];rfl,BU.out.2⟩
   rw [if_neg hm] at Fm;rw [decide_eq_false hm] at Og;have HE:=zh Fm;have Ad:=zlT BD (.int .i64 0) (.int .u64 0) (.slice none 0 0);have Au:=zaq Dk (show w.heap.size<=w.heap.size+1 by omega) (.int .i64 0) (.int .u64 0) (.slice none 0 0)
   have BU:=zh (zn Ad Au);clear Hw Fm hx A7 BD Ad Au Dk Kw De hb Ac Ut IS Hx FE H8 AP KJ hm;go_wp2_with fail;refine Og.out.mono ?_;rintro e w3 ⟨rfl,rfl⟩;go_wp2_with fail;obtain ⟨r0,r1,r2,-⟩:=zbb BU.out.1;refine bodyPost_ret (zcx _ (w.heap.size+1) _ _ _ _ _ rfl rfl ⟨r0,r1,r2⟩) rfl ?_;exact ⟨_,_,_,_,by rw [HE.out];rfl,BU.out.2⟩
end
section
open Go.RowKit
set_option maxRecDepth 100000
set_option maxHeartbeats 16000000
set_option linter.unusedSectionVars false
theorem zoA (x:Option Vh):∃(z0 z1:Int) (ua:Option Addr) (un uc:Nat),znH x= .agg #[.int .i64 z0, .int .u64 z1, .slice ua un uc]:=by
 cases x with
 | none=> exact ⟨_,_,_,_,_,rfl⟩
 | some x=> exact ⟨_,_,_,_,_,rfl⟩
theorem zm1 (c:Ct) (o:PO) (hk:o.k=11) {b:Bool} (hb:(c.find o.v).isSome=b):zav c o=if b then (match zjz c.times o.pt.toNat with | none=> (44,0) | some n=> (0,n)) else (40,0):=by
 unfold zav;rw [if_pos hk]
 cases hf:c.find o.v with
 | none=> rw [hf] at hb;cases hb;rfl
 | some y=> rw [hf] at hb;cases hb;rfl
attribute [local simp] Below.refl
theorem zqG {w w':World} {r:Array Value} {t:TypeId} {b:Nat} (hw:w'=w.alloc (.cells r t)) (hb:b=w.heap.size):w'.heap[b]? =some (.cells r t (0,0)):=by rw [hw,hb];exact heap_alloc_new w _
theorem zqC {w w':World} {r:Array Value} {t:TypeId} (hw:w'=(w.alloc (.cells r t)).drew):w'.heap[w.heap.size]? =some (.cells r t (0,0)):=by rw [hw];exact heap_alloc_new w _
theorem p3E {p:Prop} (h:p:=by
 have R3:=rdA Ay;refine su ?_;clear R3;intro w4 hw;have hs:=zlT Ay (.int .i64 z0) (.int .u64 z1) (.slice ua un uc);have Ar:=zaq Am AN (.int .i64 z0) (.int .u64 z1) (.slice ua un uc);rw [<- hw] at hs Ar;clear hw Ay Am AN;refine ⟨Ar,fun hS=> ?_⟩
 repeat refine tk ?_
 refine rz ?_;clear hS;exact tl.out):p:=h
theorem p3A {p:Prop} (h:p:=by
 rintro _ w2 hR;have q:=H3.out w1.drew _ _ hR;obtain ⟨z0,z1,ua,un,uc,HZ,rfl,As⟩:=q;have Ae:=hb.trans As;refine ⟨_,rfl,Ae,fun hS=> ?_⟩
 repeat refine tk ?_
 refine so ?_;intro w3 hw;have Am:Below w1.heap.size w1 w3:=by rw [hw];exact Ae.alloc Ae.size _
 obtain ⟨cb,An⟩:∃cb,cb=w2.heap.size:=⟨_,rfl⟩;rw [<- An];have Ay:=zqG hw An;have AN:w1.heap.size<=cb:=An ▸ Ae.size;clear hw An As Ae hR;refine ⟨Am,fun hS=> ?_⟩
 repeat refine tk ?_
 exact p3E):p:=h
theorem p3B {p:Prop} (h:p:=by
 intro w2 hw;have Ae:Below w1.heap.size w1 w2:=by rw [hw];exact hb.alloc hb.size _
 have Ay:=zqC hw;have AN:=Nat.le_refl w1.heap.size;have hlt:=(zg Ay).1;clear hw;refine ⟨Ae,fun hS=> ?_⟩;refine cl (HC.out _ Ae) ?_;rintro _ w3 hR;have q:=H3.out w2 _ _ hR;obtain ⟨z0,z1,ua,un,uc,HZ,rfl,As⟩:=q;have Am:=Ae.trans (As.mono Ae.size);replace Ay:=(As.block _ hlt).trans Ay;clear As Ae hlt hR;refine ⟨_,rfl,Am,fun hS=> ?_⟩
 repeat (first | refine sk ?_ | refine tk ?_)
 exact p3E):p:=h
theorem ptB {p:Prop} (h:p:=by
 have q:=zbb hs;obtain ⟨-,c1,-⟩:=q;clear hs S O
 go_wp2
 go_ret2;exact ⟨by rw [HP.out,<- HZ.out];rfl,HB.out.trans (Ar.mono HB.out.size)⟩):p:=h
theorem ptT {p:Prop} (h:p:=by
 clear hs
 cases hf:(st.c.find o.v).isSome with
 | false=>
   rw [hf] at HP;clear S O
   go_wp2
   go_ret2;exact ⟨by rw [HP.out];rfl,HB.out.trans (Ar.mono HB.out.size)⟩
 | true=>
   rw [hf] at HP;have HT:=zh fun (W:World) (hW:Below w1.heap.size w1 W)=> Qu.out W hW;have Ag:=Ar.drew;go_wp2_with fail;refine rg (fun W=> Below w1.heap.size w1 W) (fun hS=> ?_) Ag
   repeat refine tk ?_
   refine cl (HT.out _ Ag) ?_;rintro _ w5 ⟨rfl,Bz⟩;have AT:=Ag.trans (Bz.mono Ag.size);refine ⟨_,rfl,AT,fun hS=> ?_⟩
   repeat refine tk ?_
   refine rz ?_;clear hS S O Bz Ag
   cases hm:zjz st.c.times o.pt.toNat with
   | none=>
     rw [hm] at HP
     go_wp2
     go_ret2;exact ⟨by rw [HP.out];rfl,HB.out.trans (AT.mono HB.out.size)⟩
   | some n=>
     rw [hm] at HP
     go_wp2
     go_ret2;exact ⟨by rw [HP.out];rfl,HB.out.trans (AT.mono HB.out.size)⟩):p:=h
theorem zm2 {w:World} {p:Nat} {h:Ch} {a:StA} {cf:Cfg} {st:PS} {nb k:Nat} {Q:Nat->Prop} {o:PO} {da:Option Addr} {dn dc:Nat} {ma:Option Addr} {mn mc:Nat} (H:StW w p h a cf st nb k Q) (Ew:0<=o.pt/\o.pt < 18446744073709551616):
 Calls Tryz.prog 105 #[.pointer (some ⟨p,0,none⟩), .agg (opA o da dn dc ma mn mc)] w fun e w'=> e= .returned (.tuple #[.int .u64 ((zav st.c o).2:Nat), .int .i64 ((zav st.c o).1:Nat)])/\Below w.heap.size w w':=by
 obtain ⟨w1,Ab,Aa,Ai,O⟩:=zqU w (opA o da dn dc ma mn mc) 40;have HB:=zh Aa;have H1:=zh (H.below Aa);have HI:=zh H.inv.ct;have S:∀W,Below w1.heap.size w1 W->∀i,W.cell? ⟨p,i,none⟩=(zcH h a cf st)[i]? /\W.frozen? ⟨p,i,none⟩=false:=fun W hW=> rdA ((hW.block p H1.out.plt).trans H1.out.box);have hb:=(Below.refl w1.heap.size w1).drew;have q:=O w1 zr;have o0:w1.cell? ⟨w.heap.size,0,none⟩=some (.int .i64 o.k):=(q 0).1;have o5:w1.cell? ⟨w.heap.size,5,none⟩=some (.int .u64 o.pt):=(q 5).1;unfold opA zcH at *;clear Aa Ai q H
 by_cases h1:o.k=11
 ·have HP:=zh (zm1 st.c o h1 rfl);have HC:=zh fun (W:World) (hW:Below w1.heap.size w1 W)=> zc2 (H1.out.below hW).cat (by have:=HI.out.vlen;omega) o.v
  have H3:=zh fun (W:World) (e:Ending) (w':World) (hR:(∃x,x=h.vl.find? (fun x=> decide ((x.v.id:Int)=o.v))/\e= .returned (.tuple #[znH x, .bool x.isSome]))/\Below W.heap.size W w')=> (by
   obtain ⟨⟨x,hx,rfl⟩,hb⟩:=hR;obtain ⟨z0,z1,ua,un,uc,e⟩:=zoA x;exact ⟨z0,z1,ua,un,uc,trivial,by rw [e,show x.isSome=(st.c.find o.v).isSome by rw [zhC H1.out.cat,<- hx];cases x <;> rfl],hb⟩:∃(z0 z1:Int) (ua:Option Addr) (un uc:Nat),Hid True/\e= .returned (.tuple #[.agg #[.int .i64 z0, .int .u64 z1, .slice ua un uc], .bool (st.c.find o.v).isSome])/\Below W.heap.size W w')
  have Qu:=zh fun (W:World) (hW:Below w1.heap.size w1 W)=> zkm (c:=h.tc) (H1.out.below hW).cat.times.row (by have:=HI.out.times.len;omega) (HI.out.times.rise.imp fun h=> h.2) o.pt.toNat
  simp only [show ((o.pt.toNat:Nat):Int)=o.pt by omega] at Qu
  unfold Ch.val Ch.cells at HC;have tl:=Bx.mk @ptT;rw [h1] at o0 O Ab ⊢;clear h1
  go_in
  go_upto_region 1 with fail;rw [<- Ab];clear Ab;go_wp2_with fail;refine rg (fun W=> Below w1.heap.size w1 W) (fun hS=> ?_) hb
  repeat refine tk ?_
  refine ca 10 (HC.out _ hb) ?_ ?_
  ·exact p3A
  exact p3B
 have k1:(o.k==11)=false:=by simpa using h1
 by_cases h2:o.k=12
 ·have HP:=zh (show zav st.c o=ziB st.c o.i o.v by unfold zav ziB;rw [if_neg h1,if_pos h2];cases st.c.book o.i <;> rfl)
  have HC:=zh fun (W:World) (hW:Below w1.heap.size w1 W)=> zmt (H1.out.below hW).cat HI.out o.i o.v;have H3:=zh fun (W:World) (e:Ending) (w':World) (hR:∃(z:Int) (ua:Option Addr) (un uc:Nat),e= .returned (.tuple #[.agg #[.int .i64 z, .int .u64 ((ziB st.c o.i o.v).2:Nat), .slice ua un uc], .int .i64 ((ziB st.c o.i o.v).1:Nat)])/\Below W.heap.size W w')=> (by
       obtain ⟨z,ua,un,uc,rfl,hb⟩:=hR;exact ⟨z,_,ua,un,uc,rfl,rfl,hb⟩:∃(z0 z1:Int) (ua:Option Addr) (un uc:Nat),Hid (z1=((ziB st.c o.i o.v).2:Nat))/\e= .returned (.tuple #[.agg #[.int .i64 z0, .int .u64 z1, .slice ua un uc], .int .i64 ((ziB st.c o.i o.v).1:Nat)])/\Below W.heap.size W w')
  unfold Ch.val Ch.cells at HC;have tl:=Bx.mk @ptB;rw [h2] at o0 O Ab k1 ⊢;clear h1 h2 k1
  go_in
  go_upto_region 1 with fail;rw [<- Ab];clear Ab;go_wp2_with fail;refine rg (fun W=> Below w1.heap.size w1 W) (fun hS=> ?_) hb
  repeat refine tk ?_
  refine ca 12 (HC.out _ hb) ?_ ?_
  ·exact p3A
  exact p3B
 have k2:(o.k==12)=false:=by simpa using h2
 have HP:=zh (show zav st.c o=(0,o.pt.toNat) by unfold zav;rw [if_neg h1,if_neg h2])
 clear h1 h2 S O
 go_in
 go_upto_region 1 with fail;rw [<- Ab];clear Ab
 go_wp2
 go_ret2;rw [HP.out];exact ⟨by rw [show ((o.pt.toNat:Nat):Int)=o.pt by omega];rfl,HB.out⟩
end
end Go.Proofs.YtaoceecfjlkmdaaGreat
