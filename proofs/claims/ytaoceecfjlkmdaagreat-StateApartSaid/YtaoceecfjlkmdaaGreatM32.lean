/- Lemmas of the walks, merged and pressed by press.py. Conditions: those of each theorem. -/
import Derived.Test.YtaoceecfjlkmdaaGreatM29
import Derived.Test.YtaoceecfjlkmdaaGreatM31
import Derived.Test.YtaoceecfjlkmdaaGreatM9
set_option maxRecDepth 100000
set_option maxHeartbeats 64000000
set_option linter.all false
namespace Go.Proofs.YtaoceecfjlkmdaaGreat
open Tryz
section
open Go.RowKit
structure StN (w:World) (p:Nat) (h:Ch) (a:StA) (cf:Cfg) (st:PS) (nb:Nat) (F:List Nat) (L:List Uc) (E:Nat->Prop) (s:Nat) (lv:Value) (xs:List Sh) (ys:List Wh) (D:Nat->Prop) (Q:Nat->Prop):Prop where
 box:w.heap[p]? =some (.cells (zcH h a cf st) 60 (0,0))
 cat:zaV Q w h st.c
 hist:zaF w a.ph a.pt a.pa st.l F L nb E
 disk:zbC Q w a.pd s lv xs ys false 0 D
 dom:∀j,Q j↔j=p\/E j\/D j
 ne:¬E p/\¬D p/\∀j,E j->¬D j
section
variable {w:World} {p:Nat} {h:Ch} {a:StA} {cf:Cfg} {st:PS} {nb:Nat} {Q:Nat→Prop} {F:List Nat} {L:List Uc} {E:Nat→Prop} {s:Nat} {lv:Value} {xs:List Sh} {ys:List Wh} {D:Nat→Prop}
theorem StM.n {k:Nat} (H:StM w p h a cf st nb k F L E s lv xs ys D Q):StN w p h a cf st nb F L E s lv xs ys D Q:=⟨H.box,H.cat,H.hist,H.disk,H.dom,H.ne⟩
theorem StN.m {k:Nat} (H:StN w p h a cf st nb F L E s lv xs ys D Q) (hi:zcR nb st.l F L) (hp:∀e ∈ st.l,e.2≠0->zfD (xs.map (·.d)) (zbp ys) (a.lg+e.2+1)=zcC 6 (st.bl e.2)/\(st.bl e.2).length=64) (hr:a.lg+nb+1 < xs.length/\xs.length<=4096) (hm:ys.length<=k):StM w p h a cf st nb k F L E s lv xs ys D Q:=
 ⟨H.box,H.cat,H.hist,hi,H.disk,H.dom,H.ne,hp,hr,hm⟩
theorem StN.plt (H:StN w p h a cf st nb F L E s lv xs ys D Q):p < w.heap.size:=(zg H.box).1
theorem StN.qlt (H:StN w p h a cf st nb F L E s lv xs ys D Q):∀j,Q j->j < w.heap.size:=fun j hj=> by
 rcases (H.dom j).1 hj with rfl | hj | hj
 ·exact H.plt
 ·exact H.hist.lt j hj
 exact H.disk.lt j hj
theorem StN.below {w':World} (H:StN w p h a cf st nb F L E s lv xs ys D Q) (hb:Below w.heap.size w w'):StN w' p h a cf st nb F L E s lv xs ys D Q:=
 ⟨(hb.block p H.plt).trans H.box,H.cat.below hb,H.hist.below hb,H.disk.below hb,H.dom,H.ne⟩
theorem StN.cells (H:StN w p h a cf st nb F L E s lv xs ys D Q):w.cell? ⟨p,9,none⟩=some (.pointer (some ⟨a.ph,0,none⟩))/\w.cell? ⟨p,10,none⟩=some (.pointer (some ⟨a.pd,0,none⟩))/\w.cell? ⟨p,11,none⟩=some (.int .i64 (a.lg:Int)):=
 ⟨cell_of_row w _ 9 _ _ _ H.box,cell_of_row w _ 10 _ _ _ H.box,cell_of_row w _ 11 _ _ _ H.box⟩
structure StG (w:World) (Q:Nat->Prop) (w':World) (Q':Nat->Prop):Prop where
 new:∀j,Q' j->Q j\/w.heap.size<=j
 outs:zD Q w w'
theorem StG.refl (w:World) (Q:Nat->Prop):StG w Q w Q:=⟨fun _ h=> .inl h,zD.refl _ _⟩
theorem StG.trans {w1 w2 w3:World} {Q1 Q2 Q3:Nat->Prop} (h:StG w1 Q1 w2 Q2) (k:StG w2 Q2 w3 Q3):StG w1 Q1 w3 Q3:=
 ⟨fun j hj=> (k.new j hj).elim (h.new j) fun h1=> .inr (zs h.outs.size h1),h.outs.trans k.outs h.new⟩
theorem StG.below {w w':World} (Q:Nat->Prop) (hb:Below w.heap.size w w'):StG w Q w' Q:=⟨fun _ h=> .inl h,zD.of_below hb⟩
theorem StG.block {w1 w2:World} {Q1 Q2:Nat->Prop} (h:StG w1 Q1 w2 Q2) {j:Nat} (hj:j < w1.heap.size) (hq:¬Q1 j):w2.heap[j]? =w1.heap[j]? :=h.outs.block j hj hq
theorem StG.far {w1 w2:World} {Q1 Q2:Nat->Prop} (h:StG w1 Q1 w2 Q2) {j:Nat} (hj:j < w1.heap.size) (hq:¬Q1 j):¬Q2 j:=fun VB=> (h.new j VB).elim hq fun h1=> by omega
theorem StN.histed {w':World} {l':List En} {F':List Nat} {L':List Uc} (H:StN w p h a cf st nb F L E s lv xs ys D Q) (hT:HT a.ph a.pt a.pa nb E w l' F' L' w'):
 ∃E' Q',StN w' p h a cf {st with l:=l'} nb F' L' E' s lv xs ys D Q'/\StG w Q w' Q':=by
 obtain ⟨E',h1,h2,h3⟩:=hT;have jf:∀j,E j->Q j:=fun j hj=> (H.dom j).2 (.inr (.inl hj));have B6:∀j,(j=p\/E' j\/D j)->Q j\/w.heap.size<=j:=fun j hj=> by
  rcases hj with rfl | hj | hj
  ·exact .inl ((H.dom _).2 (.inl rfl))
  ·exact (h2.new j hj).imp (jf j) id
  exact .inl ((H.dom j).2 (.inr (.inr hj)))
 have P1:=H.plt;have DB:=H.disk.lt;have QX:=h3.more jf;refine ⟨E',fun j=> j=p\/E' j\/D j,⟨(h3.block p P1 H.ne.1).trans H.box,H.cat.outs QX B6,h1,H.disk.outs (fun j hj=> h3.block j (DB j hj) fun e=> H.ne.2.2 j e hj) QX B6,fun j=> Iff.rfl,fun e=> ?_,H.ne.2.1,fun j hj hd=> ?_⟩,B6,QX⟩
 ·rcases h2.new p e with h4 | h4
  ·exact H.ne.1 h4
  omega
 rcases h2.new j hj with h4 | h4
 ·exact H.ne.2.2 j h4 hd
 have:=DB j hd;omega
theorem StN.wrote {w':World} {lv':Value} {ys':List Wh} {D':Nat->Prop} (H:StN w p h a cf st nb F L E s lv xs ys D Q) (hW:zbC (fun j=> Q j\/D' j) w' a.pd s lv' xs ys' false 0 D') (hg:zba D w D' w') (ho:zD D w w'):
 ∃Q',StN w' p h a cf st nb F L E s lv' xs ys' D' Q'/\StG w Q w' Q':=by
 have Nd:∀j,D j->Q j:=fun j hj=> (H.dom j).2 (.inr (.inr hj));have B6:∀j,(j=p\/E j\/D' j)->Q j\/w.heap.size<=j:=fun j hj=> by
  rcases hj with rfl | hj | hj
  ·exact .inl ((H.dom _).2 (.inl rfl))
  ·exact .inl ((H.dom j).2 (.inr (.inl hj)))
  exact (hg.new j hj).imp (Nd j) id
 have P1:=H.plt;have RM:=H.hist.lt;have QX:=ho.more Nd;refine ⟨fun j=> j=p\/E j\/D' j,⟨(ho.block p P1 H.ne.2.1).trans H.box,H.cat.outs QX B6,H.hist.kept (ho.kept RM fun j hj hd=> H.ne.2.2 j hj hd),hW.outs (fun _ _=> rfl) (zD.refl _ _) (fun j hj=> .inl ?_),fun j=> Iff.rfl,H.ne.1,fun e=> ?_,fun j hj hd=> ?_⟩,B6,QX⟩
 ·rcases hj with rfl | hj | hj
  ·exact .inl ((H.dom _).2 (.inl rfl))
  ·exact .inl ((H.dom j).2 (.inr (.inl hj)))
  exact .inr hj
 ·rcases hg.new p e with h4 | h4
  ·exact H.ne.2.1 h4
  omega
 rcases hg.new j hd with h4 | h4
 ·exact H.ne.2.2 j hj h4
 have:=RM j hj;omega
end
theorem zlD (sure:List (List UInt8)) (ys:List Wh) (i j:Nat) (y:Sh):zfD sure (zbp (ys++ [⟨i,y⟩])) j=if i=j then y.d else zfD sure (zbp ys) j:=by
 unfold zfD zbp;rw [List.map_append];simp only [List.map_cons,List.map_nil];rw [zlb]
 by_cases h:i=j <;> simp [h]
theorem zpc {nb:Nat} {l:List En} {F:List Nat} {L:List Uc} (h:zcR nb l F L) {x:Nat} (hx:x ∈ F):zcn nb l x:=by
 have h1:=(h.all x).2 (.inl hx);refine ⟨h1.1,h1.2,fun e he e2=> ?_⟩;have h2:=h.dis x hx;rw [h.cnt x h1.1] at h2;have:=zgF he;rw [e2] at this
 omega
theorem zpb {nb:Nat} {l:List En} {F:List Nat} {L:List Uc} (h:zcR nb l F L) {x:Nat} (hx:zcn nb l x):F≠ []:=fun e=> by
 rcases (h.all x).1 ⟨hx.1,hx.2.1⟩ with h1 | h1
 ·rw [e] at h1;cases h1
 rw [h.cnt x hx.1] at h1;unfold zlS at h1;obtain ⟨e,he⟩:=List.exists_mem_of_length_pos h1;obtain ⟨h2,h3⟩:=List.mem_filter.1 he;exact hx.2.2 e h2 (of_decide_eq_true h3)
def VerE (w:World) (p:Nat) (h:Ch) (a:StA) (cf:Cfg) (st:PS) (nb k:Nat) (Q:Nat->Prop) (s:Nat) (xs:List Sh) (vol sq:Nat) (y:Pu) (e:Ending) (w':World):Prop:=
 e= .returned (.int .i64 0)/\∃x F L E lv ys D Q',(y.d≠none->zcn nb st.l x)/\StM w' p h a cf {st with l:=zaR st.l (za9 vol y.b sq,puA x y),bl:=blP st.bl x [y]} nb (k+if y.d=none then 0 else 1) F L E s lv xs ys D Q'/\StG w Q w' Q'
end
section
open Go.RowKit
theorem zio {w:World} {p:Nat} {h:Ch} {a:StA} {cf:Cfg} {st:PS} {nb k:Nat} {F:List Nat} {L:List Uc} {E:Nat->Prop} {s:Nat} {lv:Value} {xs:List Sh} {ys:List Wh} {D:Nat->Prop} {Q:Nat->Prop} {x vol b sq:Nat} (H:StM w p h a cf st nb k F L E s lv xs ys D Q) (hl:st.l.length<=1999) (C5:nb<=4000) (hx:x < w.heap.size) (IR:¬Q x) (y10:w.cell? ⟨x,10,none⟩=some (.int .i64 (vol:Int))) (y14:w.cell? ⟨x,14,none⟩=some (.int .u64 (sq:Int))) (hv:vol < 65536) (hb:b < 4294967296) (hs:sq < 18446744073709551616) (hn:za9 vol b sq ∉ st.l.map (·.1)):
 Calls Tryz.prog 30 #[.pointer (some ⟨p,0,none⟩), .pointer (some ⟨x,0,none⟩), .agg #[.int .i64 (b:Int), .int .u32 0, .slice none 0 0]] w (VerE w p h a cf st nb k Q s xs vol sq ⟨b,0,none⟩):=by
 obtain ⟨w1,Ab⟩:∃w1,w1=w.alloc (.cells #[.int .i64 (b:Int), .int .u32 0, .slice none 0 0] 91):=⟨_,rfl⟩;have Aa:Below w.heap.size w w1:=by rw [Ab];exact zr.alloc zl _
 have Ai:w1.heap.size=w.heap.size+1:=by rw [Ab,World.alloc_size]
 have hX:w1.heap[w.heap.size]? =some (.cells #[.int .i64 (b:Int), .int .u32 0, .slice none 0 0] 91 (0,0)):=by rw [Ab];exact heap_alloc_new w _
 have HS:=zh (fun (W:World) (hW:Below w1.heap.size w1 W)=> show W.cell? ⟨x,10,none⟩=some (.int .i64 (vol:Int))/\W.cell? ⟨w.heap.size,0,none⟩=some (.int .i64 (b:Int))/\W.cell? ⟨x,14,none⟩=some (.int .u64 (sq:Int)) from
  ⟨(zY ((hW.block x ud).trans (Aa.block x hx)) 10).trans y10,cell_of_row W _ 0 _ _ _ ((hW.block w.heap.size ud).trans hX),(zY ((hW.block x ud).trans (Aa.block x hx)) 14).trans y14⟩)
 have HX:=zh (fun (W:World) (hW:Below w1.heap.size w1 W)=> (hW.block w.heap.size ud).trans hX);have HB:=zh (fun (W:World) (hW:Below w1.heap.size w1 W)=> Aa.trans (hW.mono Aa.size));have H0:=zh H;have HK:=zh (zn hl (zn C5 (zn hs (zn hn (zn Ai IR)))));have cv1:IntKind.u16.wrap (vol:Int)=(vol:Int):=by rw [IntWalk.u16_in _ ud]
 have cv2:IntKind.u32.wrap (b:Int)=(b:Int):=by rw [IntWalk.u32_in _ ud]
 have HZ:=HS.out w1.drew zr.drew;have SP:∀W:World,(binOp .eql 33 (.slice none 0 0) (.slice none 0 0)).run Tryz.prog W= .ok (.bool true) W:=fun W=> Lib.run_eql_slice_nil W _ _ none 0 0 0 0 Tryz.underlying33;have SQ:∀(W:World) (g:Addr),(binOp .eql 33 (.slice (some g) 64 64) (.slice none 0 0)).run Tryz.prog W= .ok (.bool false) W:=fun W g=> Lib.run_eql_slice_nil W _ _ (some g) 64 64 0 0 Tryz.underlying33;have JG:=zn hb hs;have Rl:=zh (zj2 (v:=vol) hb hs);clear H hl C5 hx IR y10 y14 hs hn hX Aa hb JG hv Ai;go_in;go_upto_region 1 with fail;rw [<- Ab];clear Ab;refine zy ue [0,1,2,3,4,5,6,7,8,9,10,11,12,14] (fun W=> W.cell? ⟨x,10,none⟩=some (.int .i64 (vol:Int))/\W.cell? ⟨w.heap.size,0,none⟩=some (.int .i64 (b:Int))/\W.cell? ⟨x,14,none⟩=some (.int .u64 (sq:Int))) (fun _=> True) ?_;refine tL 0 HZ ?_;refine tL 1 HZ ?_;refine tL 2 HZ ?_;refine tL 5 HZ ?_;refine tL 8 HZ ?_;refine tL 9 HZ ?_;refine tL 10 HZ ?_;refine tL 3 HZ ?_;refine tL 4 HZ ?_;refine tL 6 HZ ?_;refine tL 7 HZ ?_;refine tL 11 HZ ?_;refine tL 12 HZ ?_;refine zd (i:=13) ue rfl (fun K' hK=> ?_);go_simp;obtain ⟨wB,B2⟩:∃wX,wX=(w1.alloc (.cells #[.int .u16 0, .int .u32 0, .int .u64 0] 111)).drew:=⟨_,rfl⟩;rw [<- B2];have B4:Below w1.heap.size w1 wB:=by rw [B2];exact ((Below.refl w1.heap.size w1).alloc zl _).drew
 have Lo:=HS.out _ B4;obtain ⟨cb,An⟩:∃cb,cb=w1.heap.size:=⟨_,rfl⟩;have Ay:wB.heap[cb]? =some (.cells #[.int .u16 0, .int .u32 0, .int .u64 0] 111 (0,0)):=by rw [B2,An];exact heap_alloc_new w1 _
 have AN:w1.heap.size<=cb:=by rw [An];exact zl
 have Kq:cb < wB.heap.size:=(zg Ay).1;rw [<- An];refine hK.out _ _ ⟨Lo,fun _=> trivial⟩ ?_
 try simp only [Act.put,zSs]
 clear hK K' B2 An HZ;obtain ⟨z0,z1,z2,zf⟩:=zbb Ay;have f0:=zf 0;have f1:=zf 1;have f2:=zf 2;refine zd (i:=14) ue rfl (fun K' hK=> ?_);go_simp;have Ad:=zlT Ay (.int .u16 (vol:Int)) (.int .u32 (b:Int)) (.int .u64 (sq:Int));have Au:=zaq B4 AN (.int .u16 (vol:Int)) (.int .u32 (b:Int)) (.int .u64 (sq:Int));refine hK.out _ _ ⟨HS.out _ Au,fun _=> trivial⟩ ?_
 try simp only [Act.put,zSs]
 clear hK K' Lo;generalize World.setCell _ (⟨cb,2,none⟩:Addr) _=wC at *;clear z0 z1 z2 zf f0 f1 f2;refine zI ue ?_ _;have Gm:=zh (HB.out _ Au);have HM:=zh (H0.out.n.below Gm.out);have Ho:=zh (HX.out _ Au);have DY:=zh Ad;obtain ⟨b0,b1,b2⟩:=rd3 (w:=wC) Ho.out;obtain ⟨k0,k1,k2⟩:=rd3 (w:=wC) Ad;obtain ⟨p9,p10,p11⟩:=HM.out.cells;have By:=zh (zn AN (show cb < wC.heap.size from (zg Ad).1));clear Ad Au B4 AN Ay Kq HS HX HB;have It:=zh (zlE (HM.out.below zr.drew).hist uay (za9 vol b sq));rw [Rl.out] at It;unfold zv at It;have Lm:=zh (fun j (hj:Q j)=> H0.out.qlt j hj);have IZ:=zh (fun (w5:World) (hT:HT a.ph a.pt a.pa nb E wC.drew (zaR st.l (za9 vol b sq,0)) F L w5)=> show w5.cell? ⟨p,9,none⟩=some (.pointer (some ⟨a.ph,0,none⟩))/\w5.cell? ⟨cb,0,none⟩=some (.int .u16 (vol:Int))/\w5.cell? ⟨cb,1,none⟩=some (.int .u32 (b:Int))/\w5.cell? ⟨cb,2,none⟩=some (.int .u64 (sq:Int))/\w5.cell? ⟨w.heap.size,1,none⟩=some (.int .u32 0) from by
  obtain ⟨E',Q',hN,hG⟩:=(HM.out.below zr.drew).histed hT;have hk:=(hG.block (j:=cb) By.out.2 (fun hq=> by have:=Lm.out _ hq;have:=By.out.1;have:=HK.out.2.2.2.2.1;omega)).trans DY.out
  have hx:=(hG.block (j:=w.heap.size) (show _ < wC.heap.size by have:=By.out;have:=HK.out.2.2.2.2.1;omega) (fun hq=> by have:=Lm.out _ hq;omega)).trans Ho.out
  exact ⟨hN.cells.1,cell_of_row w5 _ 0 _ _ _ hk,cell_of_row w5 _ 1 _ _ _ hk,cell_of_row w5 _ 2 _ _ _ hk,cell_of_row w5 _ 1 _ _ _ hx⟩)
 go_wp2_with fail
 go_region_held3 (fun W=> W.cell? ⟨p,9,none⟩=some (.pointer (some ⟨a.ph,0,none⟩))/\W.cell? ⟨cb,0,none⟩=some (.int .u16 (vol:Int))/\W.cell? ⟨cb,1,none⟩=some (.int .u32 (b:Int))/\W.cell? ⟨cb,2,none⟩=some (.int .u64 (sq:Int))/\W.cell? ⟨w.heap.size,1,none⟩=some (.int .u32 0)) (first | with_reducible exact CJ | go_keep)
  ((go_at_call 65;((with_reducible refine It.out.mono ?_);rintro e w5 ⟨rfl,hT⟩;have CJ:=IZ.out w5 hT)))
 have RC:=zh hT;clear hT It IZ;go_wp2_with fail;go_ret;obtain ⟨E',Q',hN,hG⟩:=(HM.out.below zr.drew).histed RC.out;have eb:blP st.bl 0 [(⟨b,0,none⟩:Pu)]=st.bl:=funext fun _=> rfl;refine ⟨rfl,0,F,L,E',lv,ys,D,Q',fun h=> absurd rfl h, ?_,(StG.below Q (Gm.out.drew)).trans hG⟩;rw [eb,if_pos rfl];refine hN.m (H0.out.hinv.hole HK.out.2.2.2.1) (fun e he h0=> ?_) H0.out.room H0.out.many;rcases zdX he with rfl | he
 ·exact absurd rfl h0
 exact H0.out.pages e he h0
theorem zhj {w:World} {p:Nat} {h:Ch} {a:StA} {cf:Cfg} {st:PS} {nb k:Nat} {F:List Nat} {L:List Uc} {E:Nat->Prop} {s:Nat} {lv:Value} {xs:List Sh} {ys:List Wh} {D:Nat->Prop} {Q:Nat->Prop} {x vol b sq:Nat} (H:StM w p h a cf st nb k F L E s lv xs ys D Q) (hl:st.l.length<=1999) (C5:nb<=4000) (hx:x < w.heap.size) (IR:¬Q x) (y10:w.cell? ⟨x,10,none⟩=some (.int .i64 (vol:Int))) (y14:w.cell? ⟨x,14,none⟩=some (.int .u64 (sq:Int))) (hv:vol < 65536) (hb:b < 4294967296) (hs:sq < 18446744073709551616) (hn:za9 vol b sq ∉ st.l.map (·.1)) {at0:Nat} (Mf:0 < at0) (ha:at0 < 4294967296) (CQ:∃e ∈ st.l,e.2=at0):
 Calls Tryz.prog 30 #[.pointer (some ⟨p,0,none⟩), .pointer (some ⟨x,0,none⟩), .agg #[.int .i64 (b:Int), .int .u32 (at0:Int), .slice none 0 0]] w (VerE w p h a cf st nb k Q s xs vol sq ⟨b,at0,none⟩):=by
 obtain ⟨w1,Ab⟩:∃w1,w1=w.alloc (.cells #[.int .i64 (b:Int), .int .u32 (at0:Int), .slice none 0 0] 91):=⟨_,rfl⟩;have Aa:Below w.heap.size w w1:=by rw [Ab];exact zr.alloc zl _
 have Ai:w1.heap.size=w.heap.size+1:=by rw [Ab,World.alloc_size]
 have hX:w1.heap[w.heap.size]? =some (.cells #[.int .i64 (b:Int), .int .u32 (at0:Int), .slice none 0 0] 91 (0,0)):=by rw [Ab];exact heap_alloc_new w _
 have HS:=zh (fun (W:World) (hW:Below w1.heap.size w1 W)=> show W.cell? ⟨x,10,none⟩=some (.int .i64 (vol:Int))/\W.cell? ⟨w.heap.size,0,none⟩=some (.int .i64 (b:Int))/\W.cell? ⟨x,14,none⟩=some (.int .u64 (sq:Int)) from
  ⟨(zY ((hW.block x ud).trans (Aa.block x hx)) 10).trans y10,cell_of_row W _ 0 _ _ _ ((hW.block w.heap.size ud).trans hX),(zY ((hW.block x ud).trans (Aa.block x hx)) 14).trans y14⟩)
 have HX:=zh (fun (W:World) (hW:Below w1.heap.size w1 W)=> (hW.block w.heap.size ud).trans hX);have HB:=zh (fun (W:World) (hW:Below w1.heap.size w1 W)=> Aa.trans (hW.mono Aa.size));have H0:=zh H;have HK:=zh (zn hl (zn C5 (zn hs (zn hn (zn Ai IR)))));have cv1:IntKind.u16.wrap (vol:Int)=(vol:Int):=by rw [IntWalk.u16_in _ ud]
 have cv2:IntKind.u32.wrap (b:Int)=(b:Int):=by rw [IntWalk.u32_in _ ud]
 have HZ:=HS.out w1.drew zr.drew;have SP:∀W:World,(binOp .eql 33 (.slice none 0 0) (.slice none 0 0)).run Tryz.prog W= .ok (.bool true) W:=fun W=> Lib.run_eql_slice_nil W _ _ none 0 0 0 0 Tryz.underlying33;have SQ:∀(W:World) (g:Addr),(binOp .eql 33 (.slice (some g) 64 64) (.slice none 0 0)).run Tryz.prog W= .ok (.bool false) W:=fun W g=> Lib.run_eql_slice_nil W _ _ (some g) 64 64 0 0 Tryz.underlying33;have JG:=zn hb hs;have Rl:=zh (zj2 (v:=vol) hb hs);have Em:0 < zan L at0/\zan L at0 < 1000000:=by
  obtain ⟨e,he,Ny⟩:=CQ;have h1:=zgF he;have h2:=zl6 st.l at0;rw [Ny] at h1;rw [H.hinv.cnt at0 Mf]
  omega
 have HA:=zh (zn Mf (zn ha (zn CQ Em)));clear Mf ha CQ Em;clear H hl C5 hx IR y10 y14 hs hn hX Aa hb JG hv Ai;go_in;go_upto_region 1 with fail;rw [<- Ab];clear Ab;refine zy ue [0,1,2,3,4,5,6,7,8,9,10,11,12,14] (fun W=> W.cell? ⟨x,10,none⟩=some (.int .i64 (vol:Int))/\W.cell? ⟨w.heap.size,0,none⟩=some (.int .i64 (b:Int))/\W.cell? ⟨x,14,none⟩=some (.int .u64 (sq:Int))) (fun _=> True) ?_;refine tL 0 HZ ?_;refine tL 1 HZ ?_;refine tL 2 HZ ?_;refine tL 5 HZ ?_;refine tL 8 HZ ?_;refine tL 9 HZ ?_;refine tL 10 HZ ?_;refine tL 3 HZ ?_;refine tL 4 HZ ?_;refine tL 6 HZ ?_;refine tL 7 HZ ?_;refine tL 11 HZ ?_;refine tL 12 HZ ?_;refine zd (i:=13) ue rfl (fun K' hK=> ?_);go_simp;obtain ⟨wB,B2⟩:∃wX,wX=(w1.alloc (.cells #[.int .u16 0, .int .u32 0, .int .u64 0] 111)).drew:=⟨_,rfl⟩;rw [<- B2];have B4:Below w1.heap.size w1 wB:=by rw [B2];exact ((Below.refl w1.heap.size w1).alloc zl _).drew
 have Lo:=HS.out _ B4;obtain ⟨cb,An⟩:∃cb,cb=w1.heap.size:=⟨_,rfl⟩;have Ay:wB.heap[cb]? =some (.cells #[.int .u16 0, .int .u32 0, .int .u64 0] 111 (0,0)):=by rw [B2,An];exact heap_alloc_new w1 _
 have AN:w1.heap.size<=cb:=by rw [An];exact zl
 have Kq:cb < wB.heap.size:=(zg Ay).1;rw [<- An];refine hK.out _ _ ⟨Lo,fun _=> trivial⟩ ?_
 try simp only [Act.put,zSs]
 clear hK K' B2 An HZ;obtain ⟨z0,z1,z2,zf⟩:=zbb Ay;have f0:=zf 0;have f1:=zf 1;have f2:=zf 2;refine zd (i:=14) ue rfl (fun K' hK=> ?_);go_simp;have Ad:=zlT Ay (.int .u16 (vol:Int)) (.int .u32 (b:Int)) (.int .u64 (sq:Int));have Au:=zaq B4 AN (.int .u16 (vol:Int)) (.int .u32 (b:Int)) (.int .u64 (sq:Int));refine hK.out _ _ ⟨HS.out _ Au,fun _=> trivial⟩ ?_
 try simp only [Act.put,zSs]
 clear hK K' Lo;generalize World.setCell _ (⟨cb,2,none⟩:Addr) _=wC at *;clear z0 z1 z2 zf f0 f1 f2;refine zI ue ?_ _;have Gm:=zh (HB.out _ Au);have HM:=zh (H0.out.n.below Gm.out);have Ho:=zh (HX.out _ Au);have DY:=zh Ad;obtain ⟨b0,b1,b2⟩:=rd3 (w:=wC) Ho.out;obtain ⟨k0,k1,k2⟩:=rd3 (w:=wC) Ad;obtain ⟨p9,p10,p11⟩:=HM.out.cells;have By:=zh (zn AN (show cb < wC.heap.size from (zg Ad).1));clear Ad Au B4 AN Ay Kq HS HX HB;have It:=zh (zjv (HM.out.below zr.drew).hist uay (za9 vol b sq) at0 HA.out.1 HA.out.2.1 HA.out.2.2.2.1 HA.out.2.2.2.2);rw [Rl.out] at It;unfold zv at It;have Lm:=zh (fun j (hj:Q j)=> H0.out.qlt j hj);have IZ:=zh (fun (w5:World) (hT:HT a.ph a.pt a.pa nb E wC.drew (zaR st.l (za9 vol b sq,at0)) F (zbV L at0 (zan L at0+1)) w5)=> show w5.cell? ⟨p,9,none⟩=some (.pointer (some ⟨a.ph,0,none⟩))/\w5.cell? ⟨cb,0,none⟩=some (.int .u16 (vol:Int))/\w5.cell? ⟨cb,1,none⟩=some (.int .u32 (b:Int))/\w5.cell? ⟨cb,2,none⟩=some (.int .u64 (sq:Int))/\w5.cell? ⟨w.heap.size,1,none⟩=some (.int .u32 (at0:Int)) from by
  obtain ⟨E',Q',hN,hG⟩:=(HM.out.below zr.drew).histed hT;have hk:=(hG.block (j:=cb) By.out.2 (fun hq=> by have:=Lm.out _ hq;have:=By.out.1;have:=HK.out.2.2.2.2.1;omega)).trans DY.out
  have hx:=(hG.block (j:=w.heap.size) (show _ < wC.heap.size by have:=By.out;have:=HK.out.2.2.2.2.1;omega) (fun hq=> by have:=Lm.out _ hq;omega)).trans Ho.out
  exact ⟨hN.cells.1,cell_of_row w5 _ 0 _ _ _ hk,cell_of_row w5 _ 1 _ _ _ hk,cell_of_row w5 _ 2 _ _ _ hk,cell_of_row w5 _ 1 _ _ _ hx⟩)
 go_wp2_with fail
 go_region_held3 (fun W=> W.cell? ⟨p,9,none⟩=some (.pointer (some ⟨a.ph,0,none⟩))/\W.cell? ⟨cb,0,none⟩=some (.int .u16 (vol:Int))/\W.cell? ⟨cb,1,none⟩=some (.int .u32 (b:Int))/\W.cell? ⟨cb,2,none⟩=some (.int .u64 (sq:Int))/\W.cell? ⟨w.heap.size,1,none⟩=some (.int .u32 (at0:Int))) (first | with_reducible exact CJ | go_keep)
  ((go_at_call 65;((with_reducible refine It.out.mono ?_);rintro e w5 ⟨rfl,hT⟩;have CJ:=IZ.out w5 hT)))
 have RC:=zh hT;clear hT It IZ;go_wp2_with fail;go_ret;obtain ⟨E',Q',hN,hG⟩:=(HM.out.below zr.drew).histed RC.out;have eb:blP st.bl 0 [(⟨b,at0,none⟩:Pu)]=st.bl:=funext fun _=> rfl;refine ⟨rfl,0,F,zbV L at0 (zan L at0+1),E',lv,ys,D,Q',fun h=> absurd rfl h, ?_,(StG.below Q (Gm.out.drew)).trans hG⟩;rw [eb,if_pos rfl];refine hN.m (H0.out.hinv.share HK.out.2.2.2.1 HA.out.1 HA.out.2.2.2.1 fun y=> zcs _ _ _ _) (fun e he h0=> ?_) H0.out.room H0.out.many;rcases zdX he with rfl | he
 ·obtain ⟨e1,X9,Ny⟩:=HA.out.2.2.1;have:=H0.out.pages e1 X9 (by have:=HA.out.1;omega)
  rw [Ny] at this;exact this
 exact H0.out.pages e he h0
theorem zin {w:World} {p:Nat} {h:Ch} {a:StA} {cf:Cfg} {st:PS} {nb k:Nat} {F:List Nat} {L:List Uc} {E:Nat->Prop} {s:Nat} {lv:Value} {xs:List Sh} {ys:List Wh} {D:Nat->Prop} {Q:Nat->Prop} {x vol b sq:Nat} (H:StM w p h a cf st nb k F L E s lv xs ys D Q) (hl:st.l.length<=1999) (C5:nb<=4000) (hx:x < w.heap.size) (IR:¬Q x) (y10:w.cell? ⟨x,10,none⟩=some (.int .i64 (vol:Int))) (y14:w.cell? ⟨x,14,none⟩=some (.int .u64 (sq:Int))) (hv:vol < 65536) (hb:b < 4294967296) (hs:sq < 18446744073709551616) (hn:za9 vol b sq ∉ st.l.map (·.1)) {at0:Nat} {g:Nat} {d:List UInt8} (hd:Bs w (some ⟨g,0,none⟩) 64 d) (kh:¬Q g) (qx:ys.length<=1000) (GC:∃x,zcn nb st.l x):
 Calls Tryz.prog 30 #[.pointer (some ⟨p,0,none⟩), .pointer (some ⟨x,0,none⟩), .agg #[.int .i64 (b:Int), .int .u32 (at0:Int), .slice (some ⟨g,0,none⟩) 64 64]] w (VerE w p h a cf st nb k Q s xs vol sq ⟨b,at0,some d⟩):=by
 obtain ⟨w1,Ab⟩:∃w1,w1=w.alloc (.cells #[.int .i64 (b:Int), .int .u32 (at0:Int), .slice (some ⟨g,0,none⟩) 64 64] 91):=⟨_,rfl⟩;have Aa:Below w.heap.size w w1:=by rw [Ab];exact zr.alloc zl _
 have Ai:w1.heap.size=w.heap.size+1:=by rw [Ab,World.alloc_size]
 have hX:w1.heap[w.heap.size]? =some (.cells #[.int .i64 (b:Int), .int .u32 (at0:Int), .slice (some ⟨g,0,none⟩) 64 64] 91 (0,0)):=by rw [Ab];exact heap_alloc_new w _
 have HS:=zh (fun (W:World) (hW:Below w1.heap.size w1 W)=> show W.cell? ⟨x,10,none⟩=some (.int .i64 (vol:Int))/\W.cell? ⟨w.heap.size,0,none⟩=some (.int .i64 (b:Int))/\W.cell? ⟨x,14,none⟩=some (.int .u64 (sq:Int)) from
  ⟨(zY ((hW.block x ud).trans (Aa.block x hx)) 10).trans y10,cell_of_row W _ 0 _ _ _ ((hW.block w.heap.size ud).trans hX),(zY ((hW.block x ud).trans (Aa.block x hx)) 14).trans y14⟩)
 have HX:=zh (fun (W:World) (hW:Below w1.heap.size w1 W)=> (hW.block w.heap.size ud).trans hX);have HB:=zh (fun (W:World) (hW:Below w1.heap.size w1 W)=> Aa.trans (hW.mono Aa.size));have H0:=zh H;have HK:=zh (zn hl (zn C5 (zn hs (zn hn (zn Ai IR)))));have cv1:IntKind.u16.wrap (vol:Int)=(vol:Int):=by rw [IntWalk.u16_in _ ud]
 have cv2:IntKind.u32.wrap (b:Int)=(b:Int):=by rw [IntWalk.u32_in _ ud]
 have HZ:=HS.out w1.drew zr.drew;have SP:∀W:World,(binOp .eql 33 (.slice none 0 0) (.slice none 0 0)).run Tryz.prog W= .ok (.bool true) W:=fun W=> Lib.run_eql_slice_nil W _ _ none 0 0 0 0 Tryz.underlying33;have SQ:∀(W:World) (g:Addr),(binOp .eql 33 (.slice (some g) 64 64) (.slice none 0 0)).run Tryz.prog W= .ok (.bool false) W:=fun W g=> Lib.run_eql_slice_nil W _ _ (some g) 64 64 0 0 Tryz.underlying33;have JG:=zn hb hs;have Rl:=zh (zj2 (v:=vol) hb hs);have Fq:g < w.heap.size:=by
  obtain ⟨b',o',c',e',-,-,h1⟩:=Bs.cell hd 0 ud
  cases e'
  exact h1
 have HD:=zh (zn hd (zn kh (zn qx (zn GC Fq))));clear hd kh qx GC Fq;clear H hl C5 hx IR y10 y14 hs hn hX Aa hb JG hv Ai;go_in;go_upto_region 1 with fail;rw [<- Ab];clear Ab;refine zy ue [0,1,2,3,4,5,6,7,8,9,10,11,12,14] (fun W=> W.cell? ⟨x,10,none⟩=some (.int .i64 (vol:Int))/\W.cell? ⟨w.heap.size,0,none⟩=some (.int .i64 (b:Int))/\W.cell? ⟨x,14,none⟩=some (.int .u64 (sq:Int))) (fun _=> True) ?_;refine tL 0 HZ ?_;refine tL 1 HZ ?_;refine tL 2 HZ ?_;refine tL 5 HZ ?_;refine tL 8 HZ ?_;refine tL 9 HZ ?_;refine tL 10 HZ ?_;refine tL 3 HZ ?_;refine tL 4 HZ ?_;refine tL 6 HZ ?_;refine tL 7 HZ ?_;refine tL 11 HZ ?_;refine tL 12 HZ ?_;refine zd (i:=13) ue rfl (fun K' hK=> ?_);go_simp;obtain ⟨wB,B2⟩:∃wX,wX=(w1.alloc (.cells #[.int .u16 0, .int .u32 0, .int .u64 0] 111)).drew:=⟨_,rfl⟩;rw [<- B2];have B4:Below w1.heap.size w1 wB:=by rw [B2];exact ((Below.refl w1.heap.size w1).alloc zl _).drew
 have Lo:=HS.out _ B4;obtain ⟨cb,An⟩:∃cb,cb=w1.heap.size:=⟨_,rfl⟩;have Ay:wB.heap[cb]? =some (.cells #[.int .u16 0, .int .u32 0, .int .u64 0] 111 (0,0)):=by rw [B2,An];exact heap_alloc_new w1 _
 have AN:w1.heap.size<=cb:=by rw [An];exact zl
 have Kq:cb < wB.heap.size:=(zg Ay).1;rw [<- An];refine hK.out _ _ ⟨Lo,fun _=> trivial⟩ ?_
 try simp only [Act.put,zSs]
 clear hK K' B2 An HZ;obtain ⟨z0,z1,z2,zf⟩:=zbb Ay;have f0:=zf 0;have f1:=zf 1;have f2:=zf 2;refine zd (i:=14) ue rfl (fun K' hK=> ?_);go_simp;have Ad:=zlT Ay (.int .u16 (vol:Int)) (.int .u32 (b:Int)) (.int .u64 (sq:Int));have Au:=zaq B4 AN (.int .u16 (vol:Int)) (.int .u32 (b:Int)) (.int .u64 (sq:Int));refine hK.out _ _ ⟨HS.out _ Au,fun _=> trivial⟩ ?_
 try simp only [Act.put,zSs]
 clear hK K' Lo;generalize World.setCell _ (⟨cb,2,none⟩:Addr) _=wC at *;clear z0 z1 z2 zf f0 f1 f2;refine zI ue ?_ _;have Gm:=zh (HB.out _ Au);have HM:=zh (H0.out.n.below Gm.out);have Ho:=zh (HX.out _ Au);have DY:=zh Ad;obtain ⟨b0,b1,b2⟩:=rd3 (w:=wC) Ho.out;obtain ⟨k0,k1,k2⟩:=rd3 (w:=wC) Ad;obtain ⟨p9,p10,p11⟩:=HM.out.cells;have By:=zh (zn AN (show cb < wC.heap.size from (zg Ad).1));clear Ad Au B4 AN Ay Kq HS HX HB;have HF:=zh (zn (zpb H0.out.hinv HD.out.2.2.2.1.choose_spec) (zn (show F.Nodup from by obtain ⟨S,DA,q1,q2,q3,-⟩:=HM.out.hist.has;exact q3.fnodup) trivial))
 obtain ⟨S,DA,q1,q2,q3,q4,q5⟩:=HM.out.hist.has;have Qt:=zh (zfO q3 HF.out.1 (by have:=H0.out.hinv.flen HF.out.2.1;have:=HK.out.2.1;omega) (fun x hx=> by rw [H0.out.hinv.dis x hx];omega))
 have JO:=zh (fun (w':World) F' L' D' (hA:zX w' a.pa F' L' nb D') hg ho=> HM.out.histed (l':=st.l) (zaF.alloced q1 q2 q3 q4 q5 hA hg ho));have h1c:=HM.out.hist.reads.2;have bG:=zh (fun j (hj:Q j)=> zt (H0.out.qlt j hj) Gm.out.size);have Lm:=zh (fun j (hj:Q j)=> H0.out.qlt j hj);unfold zv at Qt h1c;clear q1 q2 q3 q4 q5 k0 k1 k2 p10 p11;go_wp2_with fail;refine Qt.out.mono ?_;rintro e w2 ⟨x0,DA',rfl,Qd,hA,BN,KP⟩;obtain ⟨E2,Q2,I7,Hp⟩:=JO.out w2 _ _ DA' hA BN KP;have AS:=zh ((Hp.block (by have:=By.out;have:=HK.out.2.2.2.2.1;omega) (fun hq=> by have:=Lm.out _ hq;omega)).trans Ho.out)
 have Bl:=zh ((Hp.block By.out.2 (fun hq=> by have:=Lm.out _ hq;have:=By.out.1;have:=HK.out.2.2.2.2.1;omega)).trans DY.out)
 have Ff:=zh (zn I7 (zn Hp Qd));have CP:Bs w2 (some ⟨g,0,none⟩) 64 d:=Bs.heap HD.out.1 ((Hp.block (by have:=Gm.out.size;have:=HD.out.2.2.2.2;omega) HD.out.2.1).trans (Gm.out.block g HD.out.2.2.2.2))
 have ZR:=zh (zjj (w:=w2) 64 6 CP ud ud);have b2:=cell_of_row w2 _ 2 _ _ _ AS.out;clear hA BN KP I7 Hp Qd CP Qt JO p9 h1c;go_wp2_with fail;refine ZR.out.mono ?_;rintro e w3 ⟨v3,rfl,A6,Am⟩;have BG:(zcC (UInt8.ofNat 6) d).length=128:=zmZ _ _ (by have:=HD.out.1.length;omega)
 rw [BG] at A6;obtain ⟨g3,c3,rfl⟩:=zdp A6 ud;have Su:=zfw A6;have JC:=Ff.out.1.below Am;have DP:=(H0.out.hinv.all x0).2 (.inl Ff.out.2.2);have Z3:=zh (zfV JC.disk (fun j hj=> (JC.dom j).2 (.inr (.inr hj))) JC.qlt (a:=x0) (lg:=a.lg) (by have:=HK.out.2.1;omega) (by have:=H0.out.room;omega) (by have:=H0.out.room;omega) (by have:=HD.out.2.2.1;omega) c3 Su)
 obtain ⟨-,p10,p11⟩:=JC.cells;have Qp:=zh (zn JC Am);clear JC Am Su A6 BG ZR b2;go_wp2_with fail;refine Z3.out.mono ?_;rintro e w4 ⟨lv',y,D',rfl,VJ,Pl,BN,KP⟩;obtain ⟨Q4,OT,US⟩:=Qp.out.1.wrote Pl BN KP;have LX:=(StG.below Q2 Qp.out.2).trans US;have Az:=(LX.block uar (Ff.out.2.1.far By.out.2 (fun hq=> by have:=Lm.out _ hq;have:=By.out.1;have:=HK.out.2.2.2.2.1;omega))).trans Bl.out
 have Of:=zh (zn (show cb < w4.heap.size from (zg Az).1) (zn (show ¬Q4 cb from LX.far uar (Ff.out.2.1.far By.out.2 (fun hq=> by have:=Lm.out _ hq;have:=By.out.1;have:=HK.out.2.2.2.2.1;omega))) Az))
 obtain ⟨k0,k1,k2⟩:=rd3 (w:=w4) Az;have FC:=zh (zjl (OT.below zr.drew).hist (by have:=HK.out.1;show st.l.length<=_;omega) (za9 vol b sq) x0)
 rw [Rl.out] at FC;unfold zv at FC;obtain ⟨p9,-,-⟩:=OT.cells;have Oo:=zh (zn OT (zn LX VJ));clear VJ Pl BN KP OT US LX Z3 p10 p11 DP Az;have IZ:=zh (fun (w5:World) F' L' (hT:HT a.ph a.pt a.pa nb E2 w4.drew (zaR st.l (za9 vol b sq,x0)) F' L' w5)=> show w5.cell? ⟨p,9,none⟩=some (.pointer (some ⟨a.ph,0,none⟩))/\w5.cell? ⟨cb,0,none⟩=some (.int .u16 (vol:Int))/\w5.cell? ⟨cb,1,none⟩=some (.int .u32 (b:Int))/\w5.cell? ⟨cb,2,none⟩=some (.int .u64 (sq:Int)) from by
  obtain ⟨E',Q',hN,hG⟩:=(Oo.out.1.below zr.drew).histed hT;have hk:=(hG.block (j:=cb) Of.out.1 Of.out.2.1).trans Of.out.2.2;exact ⟨hN.cells.1,cell_of_row w5 _ 0 _ _ _ hk,cell_of_row w5 _ 1 _ _ _ hk,cell_of_row w5 _ 2 _ _ _ hk⟩)
 go_wp2_with fail
 go_region_held3 (fun W=> W.cell? ⟨p,9,none⟩=some (.pointer (some ⟨a.ph,0,none⟩))/\W.cell? ⟨cb,0,none⟩=some (.int .u16 (vol:Int))/\W.cell? ⟨cb,1,none⟩=some (.int .u32 (b:Int))/\W.cell? ⟨cb,2,none⟩=some (.int .u64 (sq:Int))) (first | with_reducible exact CJ | go_keep)
  ((go_at_call 69;((with_reducible refine FC.out.mono ?_);rintro e w5 ⟨rfl,hT⟩;have CJ:=IZ.out w5 _ _ hT)))
 have RC:=zh hT;clear hT FC IZ;go_wp2_with fail;go_ret;obtain ⟨E',Q',hN,hG⟩:=(Oo.out.1.below zr.drew).histed RC.out;have Mw:=zpc H0.out.hinv Ff.out.2.2;have eb:blP st.bl x0 [(⟨b,at0,some d⟩:Pu)]=fun a=> if a=x0 then d else st.bl a:=funext fun _=> rfl;refine ⟨rfl,x0,F.erase x0,zbV L x0 (zan L x0+1),E',lv',ys++ [⟨a.lg+x0+1,y⟩],D',Q',fun _=> Mw, ?_,(StG.below Q Gm.out).trans (Ff.out.2.1.trans (Oo.out.2.1.trans ((StG.below Q4 zr.drew).trans hG)))⟩;rw [eb,if_neg (fun h=> by cases h)]
 have ye:StN w5 p h a cf {st with l:=zaR st.l (za9 vol b sq,x0),bl:=fun a=> if a=x0 then d else st.bl a} nb (F.erase x0) (zbV L x0 (zan L x0+1)) E' s lv' xs (ys++ [⟨a.lg+x0+1,y⟩]) D' Q':=⟨hN.box,hN.cat,hN.hist,hN.disk,hN.dom,hN.ne⟩
 refine ye.m (H0.out.hinv.take HF.out.2.1 HK.out.2.2.2.1 Ff.out.2.2 fun z=> zcs _ _ _ _) (fun e he h0=> ?_) H0.out.room (by have:=H0.out.many;simp;omega)
 rw [zlD];rcases zdX he with rfl | he
 ·simp only [if_pos];rw [Oo.out.2.2];exact ⟨rfl,HD.out.1.length⟩
 have Aj:=Mw.2.2 e he;rw [if_neg ud];simp only [if_neg Aj];exact H0.out.pages e he h0
end
end Go.Proofs.YtaoceecfjlkmdaaGreat
