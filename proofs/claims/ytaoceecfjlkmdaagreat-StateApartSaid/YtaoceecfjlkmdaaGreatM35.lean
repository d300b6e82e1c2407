/- Lemmas of the walks, merged and pressed by press.py. Conditions: those of each theorem. -/
import Derived.Test.YtaoceecfjlkmdaaGreatM34
set_option maxRecDepth 100000
set_option maxHeartbeats 64000000
set_option linter.all false
namespace Go.Proofs.YtaoceecfjlkmdaaGreat
open Tryz
section
open Go.RowKit
theorem zdh {α:Type} {p:α->Bool}:∀{l:List α} {i:Nat},l.findIdx? p=some i->l.eraseP p=l.take i++l.drop (i+1)
 | [],_,h=> by simp at h
 | y::l,i,h=> by
   rw [List.findIdx?_cons] at h;rw [List.eraseP_cons]
   split at h
   ·rename_i hp
    cases h
    rw [hp];simp
   rename_i hp
   have hp:p y=false:=by simpa using hp
   rw [hp];obtain ⟨j,hj,rfl⟩:=Option.map_eq_some_iff.1 h;simp [zdh hj]
theorem zi9 {α β:Type} (f:α->β) (l:List α) (i:Nat):(l.take i++l.drop (i+1)).map f=(l.map f).take i++(l.map f).drop (i+1):=by
 rw [List.map_append,List.map_take,List.map_drop]
def zkE (o:Option Nat) (code:Nat):Nat:=match o with
 | none=> code
 | some _=> 0
theorem zc6 (tmps:Array Value) (B:Nat) (e5:Value) (v0 v1 v2 v3 v4 v5 v6 v7 v8:Value) (W:World) (h:tmps[4]? =some (.pointer (some ⟨B,0,none⟩))) (h5:tmps[5]? =some e5)
 (q:W.cell? ⟨B,0,none⟩=some v0/\W.cell? ⟨B,1,none⟩=some v1/\W.cell? ⟨B,2,none⟩=some v2/\W.cell? ⟨B,3,none⟩=some v3/\W.cell? ⟨B,4,none⟩=some v4/\W.cell? ⟨B,5,none⟩=some v5/\W.cell? ⟨B,6,none⟩=some v6/\W.cell? ⟨B,7,none⟩=some v7/\W.cell? ⟨B,8,none⟩=some v8):
 (results Tryz.f89 tmps).run Tryz.prog W= .ok (.tuple #[.agg #[v0,v1,v2,v3,v4,v5,v6,v7,v8],e5]) W:=by
 obtain ⟨q0,q1,q2,q3,q4,q5,q6,q7,q8⟩:=q;simp [results,Tryz.results89,go_sem,h,h5,q0,q1,q2,q3,q4,q5,q6,q7,q8]
theorem zjq {Q:Nat->Prop} {w:World} {h:Ch} {c:Ct} {s0 k:Nat} (hc:zaV Q w h c) (hi:CtI c s0 k) (hQ:∀j,Q j->j < w.heap.size) (id:Int):
 Calls Tryz.prog 89 #[h.val c, .int .i64 id] w fun e w'=> ∃v,e= .returned (.tuple #[v, .int .i64 (zkE (c.vols.findIdx? fun x=> decide ((x.id:Int)=id)) 40:Nat)])/\znA Q w' v (zkE (c.vols.findIdx? fun x=> decide ((x.id:Int)=id)) 40) (c.delete id)/\Below w.heap.size w w':=by
 obtain ⟨w1,Ab⟩:∃w1,w1=(w.alloc (.cells (h.cells c) 54)).alloc (.cells zcr 54):=⟨_,rfl⟩;have Aa:Below w.heap.size w w1:=by rw [Ab];exact (zr.alloc zl _).alloc uh _
 have Ai:w1.heap.size=w.heap.size+2:=by rw [Ab,World.alloc_size,World.alloc_size]
 have hX:w1.heap[w.heap.size]? =some (.cells (h.cells c) 54 (0,0)):=by rw [Ab,Below.heap_alloc _ _ _ uh];exact heap_alloc_new w _
 have hY:w1.heap[w.heap.size+1]? =some (.cells zcr 54 (0,0)):=by
  have:=heap_alloc_new (w.alloc (.cells (h.cells c) 54)) (.cells zcr 54);rw [World.alloc_size] at this;rw [Ab];exact this
 have hn:c.vols.length<=8:=by have:=hi.vlen;have:=hi.glen;have:=hi.blen;omega
 have HP:=zh (zgq (hc.below Aa) ud id);have HC:=zh (zn hc (zn hn hQ));have Ak:=zh (zn Aa (zn Ai (zn hX hY)));obtain ⟨x0,x1,x2,x3,x4,x5,x6,x7,x8,-⟩:=zaf hX;clear hc hi hQ Aa Ai hX hY hn;unfold Ch.val at *;unfold Ch.cells zcr at *;go_in;go_upto_region 1 with fail;rw [<- Ab];clear Ab;go_wp2_with fail;refine HP.out.mono ?_;rintro e w2 ⟨rfl,Ae⟩;have A7:=(Ae.block w.heap.size ui).trans Ak.out.2.2.1;have BD:=(Ae.block (w.heap.size+1) ui).trans Ak.out.2.2.2;obtain ⟨x0,x1,x2,x3,x4,x5,x6,x7,x8,xf⟩:=zaf (h:=h) (c:=c) A7;obtain ⟨y0,y1,y2,y3,y4,y5,y6,y7,y8,yf⟩:=zJ BD;have Ap:=zh (zn (Ak.out.1.trans (Ae.mono Ak.out.1.size)) (zn A7 (zn BD Ae)));have f0:=yf 0;have f1:=yf 1;have f2:=yf 2;have f3:=yf 3;have f4:=yf 4;have f5:=yf 5;have f6:=yf 6;have f7:=yf 7;have f8:=yf 8;have HE:=zh (show (h.vl.findIdx? fun x=> decide ((x.v.id:Int)=id))=c.vols.findIdx? fun x=> decide ((x.id:Int)=id) by rw [<- HC.out.1.volsE,zdA])
 have Im:=zh (show c.delete id={c with vols:=c.vols.eraseP fun x=> decide ((x.id:Int)=id)} from rfl)
 clear HP xf yf
 cases hf:c.vols.findIdx? fun x=> decide ((x.id:Int)=id) with
 | none=>
   have Gq:=zh hf;have Ad:=zeE BD (.int .i64 0) (.int .i64 0) (.int .i64 0) (.int .u64 0) (.slice none 0 0) (.slice none 0 0) (.slice none 0 0) (.slice none 0 0) (.slice none 0 0);obtain ⟨r0,r1,r2,r3,r4,r5,r6,r7,r8,-⟩:=zJ Ad;have Au:=zG Ap.out.1 (show w.heap.size<=w.heap.size+1 by omega) (.int .i64 0) (.int .i64 0) (.int .i64 0) (.int .u64 0) (.slice none 0 0) (.slice none 0 0) (.slice none 0 0) (.slice none 0 0) (.slice none 0 0)
   have BU:=zh (zn (zn r0 (zn r1 (zn r2 (zn r3 (zn r4 (zn r5 (zn r6 (zn r7 r8)))))))) Au);clear Ad r0 r1 r2 r3 r4 r5 r6 r7 r8 Au A7 BD Ae hf
   dsimp only [zf0]
   go_wp2_with fail;refine bodyPost_ret (zc6 _ (w.heap.size+1) _ _ _ _ _ _ _ _ _ _ _ rfl rfl BU.out.1) rfl ?_;exact ⟨_,by rw [Gq.out];rfl,by rw [Gq.out];exact .inl ⟨show (40:Nat)≠0 by decide,_,rfl,rfl⟩,BU.out.2⟩
 | some i=>
   have De:=(zbi hf).2;have HF:=zh (zn (zdh hf) De);have Gq:=zh hf;obtain ⟨j,hj⟩:∃j,j=i+1:=⟨_,rfl⟩;have i1:¬(i:Int) < 0:=ud;have i2:IntKind.i64.wrap ((i:Int)+1)=(j:Int):=by rw [zw _ uG];omega
   have Ac:h.vl.length=c.vols.length:=by rw [<- HC.out.1.volsE,List.length_map]
   have Ah:=HC.out.1.vols.row.row;rw [Ac] at Ah;have By:=zh (zd7 (c:=h.vc) (Ah.below Ap.out.1 zl) uG);have HL:=zh (zn Ac hj);clear A7 BD Ae hf De Ac Ah hj
   dsimp only [zf0]
   go_wp2_with fail;refine By.out.mono ?_;rintro e w3 ⟨v3,rfl,A6,Am⟩;have JU:=zh (ziL A6 i uaf uad);rw [<- HL.out.2] at JU;have Fg:=zh (zn A6 Am);clear By x0 x1 x2 x3 x4 x5 x6 x7 x8 y0 y1 y2 y3 y4 y5 y6 y7 y8 f0 f1 f2 f3 f4 f5 f6 f7 f8;clear A6 Am;go_wp2_with fail;refine JU.out.mono ?_;rintro e w4 ⟨v4,rfl,Bf,DH⟩;rw [HL.out.2] at Bf;have CB:Below w2.heap.size w2 w4:=Below.own Fg.out.2 Fg.out.1 DH zl Fg.out.2.size;have Ek:=(CB.block w.heap.size (zg Ap.out.2.1).1).trans Ap.out.2.1;have F8:=(CB.block (w.heap.size+1) (zg Ap.out.2.2.1).1).trans Ap.out.2.2.1;obtain ⟨ra,rn,rc,rfl⟩:=Bf.form;obtain ⟨x0,x1,x2,x3,x4,x5,x6,x7,x8,xf⟩:=zaf (h:=h) (c:=c) Ek;have g4:=xf 4;obtain ⟨w5,Co⟩:∃w5,w5=w4.setCell ⟨w.heap.size,4,none⟩ (.slice ra rn rc):=⟨_,rfl⟩;have Cw:w5.heap[w.heap.size]? =some (.cells #[.int .i64 (c.nv:Int), .int .i64 (c.ng:Int), .int .i64 (c.nb:Int), .int .u64 (c.fl:Int), .slice ra rn rc, .slice h.ga c.groups.length h.gc, .slice h.ba c.books.length h.bc, .slice h.ka c.kept.length h.kc, .slice h.ta c.times.length h.tc] 54 (0,0)):=by
    rw [Co];exact heap_setCell_same _ _ 4 _ _ _ Ek
   have Bj:w4.grownBy w5 (some w.heap.size):=by rw [Co];exact zq w4 ⟨w.heap.size,4,none⟩ _
   have Fk:=(Bj.block (w.heap.size+1) (zg F8).1 uh).trans F8;have FM:=zh (zn Cw (zn Bj (zn Fk (zn Bf CB))));clear JU DH CB Ek F8 Bf xf;go_upto_region 5 with fail;rw [<- Co];clear Co x0 x1 x2 x3 x4 x5 x6 x7 x8 g4;obtain ⟨x0,x1,x2,x3,x4,x5,x6,x7,x8,xf⟩:=zJ Cw;obtain ⟨y0,y1,y2,y3,y4,y5,y6,y7,y8,yf⟩:=zJ Fk;have f0:=yf 0;have f1:=yf 1;have f2:=yf 2;have f3:=yf 3;have f4:=yf 4;have f5:=yf 5;have f6:=yf 6;have f7:=yf 7;have f8:=yf 8;clear xf yf Cw Fk Bj;go_wp2_with fail;have Ad:=zeE FM.out.2.2.1 (.int .i64 (c.nv:Int)) (.int .i64 (c.ng:Int)) (.int .i64 (c.nb:Int)) (.int .u64 (c.fl:Int)) (.slice ra rn rc) (.slice h.ga c.groups.length h.gc) (.slice h.ba c.books.length h.bc) (.slice h.ka c.kept.length h.kc) (.slice h.ta c.times.length h.tc);have BL:=zae (B:=w.heap.size+1) (zD.refl _ w5) rfl (.int .i64 (c.nv:Int)) (.int .i64 (c.ng:Int)) (.int .i64 (c.nb:Int)) (.int .u64 (c.fl:Int)) (.slice ra rn rc) (.slice h.ga c.groups.length h.gc) (.slice h.ba c.books.length h.bc) (.slice h.ka c.kept.length h.kc) (.slice h.ta c.times.length h.tc);obtain ⟨r0,r1,r2,r3,r4,r5,r6,r7,r8,-⟩:=zJ Ad;refine bodyPost_ret (zc6 _ (w.heap.size+1) _ _ _ _ _ _ _ _ _ _ _ rfl rfl ⟨r0,r1,r2,r3,r4,r5,r6,r7,r8⟩) rfl ?_;clear Ad r0 r1 r2 r3 r4 r5 r6 r7 r8 x0 x1 x2 x3 x4 x5 x6 x7 x8 y0 y1 y2 y3 y4 y5 y6 y7 y8 f0 f1 f2 f3 f4 f5 f6 f7 f8;generalize World.setCell _ (⟨w.heap.size+1,8,none⟩:Addr) _=W at *;have Ax:w.heap.size+2<=w2.heap.size:=by have:=Ak.out.2.1;have:=Ap.out.2.2.2.size;omega
   have ho2W:zD (fun j=> j=w.heap.size\/j=w.heap.size+1) w4 W:=(zD.turn (D:=fun j=> j=w.heap.size\/j=w.heap.size+1) FM.out.2.1 (.inl rfl)).trans (BL.more (D':=fun j=> j=w.heap.size\/j=w.heap.size+1) (fun _ h=> .inr h)) (fun _ h=> .inl h);have CF:Below w.heap.size w W:=by
    have h1:=Ap.out.1;have h2:=FM.out.2.2.2.2;exact ⟨ho2W.os.trans (h2.os.trans h1.os),ho2W.tape.trans (h2.tape.trans h1.tape),ho2W.output.trans (h2.output.trans h1.output),zs h1.size (zs h2.size ho2W.size),fun j hj=> (ho2W.block j (zt (zt hj h1.size) h2.size) ud).trans ((h2.block j (zt hj h1.size)).trans (h1.block j hj))⟩
   have A0:=HC.out.1.below CF;have Bf:=FM.out.2.2.2.1;obtain ⟨ra',rc',hv,JL,-,Ex⟩:=Bf.row zai;simp only [Value.slice.injEq] at hv;obtain ⟨rfl,rfl,rfl⟩:=hv;have CZ:zaM Q zeK 3 W ra (h.vl.take i++h.vl.drop (i+1)):=by
    have h0:zaM (fun j=> j=w.heap.size\/j=w.heap.size+1) zeK 3 w4 ra (h.vl.take i++h.vl.drop (i+1)):=⟨JL,fun b o hb _ hq=> by have:=(Ex b o hb).1;omega⟩
    have h1:=h0.outs zai uf ho2W (Q':=fun j=> j=w.heap.size\/j=w.heap.size+1) (fun _ h=> .inl h);exact ⟨h1.row,fun b o hb hl hq=> by have:=(Ex b o hb).1;have:=HC.out.2.2 b hq;omega⟩
   have hcut:∀x ∈ h.vl.take i++h.vl.drop (i+1),x ∈ h.vl:=fun x hx=> (List.mem_append.1 hx).elim (fun h=> List.mem_of_mem_take h) (fun h=> List.mem_of_mem_drop h);have hE:(h.vl.take i++h.vl.drop (i+1)).map (·.v)=c.vols.eraseP fun x=> decide ((x.id:Int)=id):=by
    rw [zi9,A0.volsE,HF.out.1]
   rw [Gq.out];refine ⟨_,rfl, .inr ⟨rfl,{h with va:=ra,vc:=rc,vl:=h.vl.take i++h.vl.drop (i+1)}, ?_, ?_⟩,CF⟩
   ·rw [Im.out];unfold Ch.val Ch.cells;simp only;rw [<- hE,List.length_map]
   rw [Im.out];exact ⟨⟨CZ,fun x hx=> A0.vols.sub x (hcut x hx)⟩,hE,A0.groups,A0.groupsE,A0.books,A0.booksE,A0.kept,A0.times⟩
theorem zc5 (tmps:Array Value) (B:Nat) (e5:Value) (v0 v1 v2 v3 v4 v5 v6 v7 v8:Value) (W:World) (h:tmps[4]? =some (.pointer (some ⟨B,0,none⟩))) (h5:tmps[5]? =some e5)
 (q:W.cell? ⟨B,0,none⟩=some v0/\W.cell? ⟨B,1,none⟩=some v1/\W.cell? ⟨B,2,none⟩=some v2/\W.cell? ⟨B,3,none⟩=some v3/\W.cell? ⟨B,4,none⟩=some v4/\W.cell? ⟨B,5,none⟩=some v5/\W.cell? ⟨B,6,none⟩=some v6/\W.cell? ⟨B,7,none⟩=some v7/\W.cell? ⟨B,8,none⟩=some v8):
 (results Tryz.f57 tmps).run Tryz.prog W= .ok (.tuple #[.agg #[v0,v1,v2,v3,v4,v5,v6,v7,v8],e5]) W:=by
 obtain ⟨q0,q1,q2,q3,q4,q5,q6,q7,q8⟩:=q;simp [results,Tryz.results57,go_sem,h,h5,q0,q1,q2,q3,q4,q5,q6,q7,q8]
theorem zjo {Q:Nat->Prop} {w:World} {h:Ch} {c:Ct} {s0 k:Nat} (hc:zaV Q w h c) (hi:CtI c s0 k) (hQ:∀j,Q j->j < w.heap.size) (id:Int):
 Calls Tryz.prog 57 #[h.val c, .int .i64 id] w fun e w'=> ∃v,e= .returned (.tuple #[v, .int .i64 (zkE (c.groups.findIdx? fun x=> decide ((x.id:Int)=id)) 42:Nat)])/\znA Q w' v (zkE (c.groups.findIdx? fun x=> decide ((x.id:Int)=id)) 42) (c.ungroup id)/\Below w.heap.size w w':=by
 obtain ⟨w1,Ab⟩:∃w1,w1=(w.alloc (.cells (h.cells c) 54)).alloc (.cells zcr 54):=⟨_,rfl⟩;have Aa:Below w.heap.size w w1:=by rw [Ab];exact (zr.alloc zl _).alloc uh _
 have Ai:w1.heap.size=w.heap.size+2:=by rw [Ab,World.alloc_size,World.alloc_size]
 have hX:w1.heap[w.heap.size]? =some (.cells (h.cells c) 54 (0,0)):=by rw [Ab,Below.heap_alloc _ _ _ uh];exact heap_alloc_new w _
 have hY:w1.heap[w.heap.size+1]? =some (.cells zcr 54 (0,0)):=by
  have:=heap_alloc_new (w.alloc (.cells (h.cells c) 54)) (.cells zcr 54);rw [World.alloc_size] at this;rw [Ab];exact this
 have hn:c.groups.length<=8:=by have:=hi.vlen;have:=hi.glen;have:=hi.blen;omega
 have HP:=zh (zgp (hc.below Aa) ud id);have HC:=zh (zn hc (zn hn hQ));have Ak:=zh (zn Aa (zn Ai (zn hX hY)));obtain ⟨x0,x1,x2,x3,x4,x5,x6,x7,x8,-⟩:=zaf hX;clear hc hi hQ Aa Ai hX hY hn;unfold Ch.val at *;unfold Ch.cells zcr at *;go_in;go_upto_region 1 with fail;rw [<- Ab];clear Ab;go_wp2_with fail;refine HP.out.mono ?_;rintro e w2 ⟨rfl,Ae⟩;have A7:=(Ae.block w.heap.size ui).trans Ak.out.2.2.1;have BD:=(Ae.block (w.heap.size+1) ui).trans Ak.out.2.2.2;obtain ⟨x0,x1,x2,x3,x4,x5,x6,x7,x8,xf⟩:=zaf (h:=h) (c:=c) A7;obtain ⟨y0,y1,y2,y3,y4,y5,y6,y7,y8,yf⟩:=zJ BD;have Ap:=zh (zn (Ak.out.1.trans (Ae.mono Ak.out.1.size)) (zn A7 (zn BD Ae)));have f0:=yf 0;have f1:=yf 1;have f2:=yf 2;have f3:=yf 3;have f4:=yf 4;have f5:=yf 5;have f6:=yf 6;have f7:=yf 7;have f8:=yf 8;have HE:=zh (show (h.gl.findIdx? fun x=> decide ((x.v.id:Int)=id))=c.groups.findIdx? fun x=> decide ((x.id:Int)=id) by rw [<- HC.out.1.groupsE,zdA])
 have Im:=zh (show c.ungroup id={c with groups:=c.groups.eraseP fun x=> decide ((x.id:Int)=id)} from rfl)
 clear HP xf yf
 cases hf:c.groups.findIdx? fun x=> decide ((x.id:Int)=id) with
 | none=>
   have Gq:=zh hf;have Ad:=zeE BD (.int .i64 0) (.int .i64 0) (.int .i64 0) (.int .u64 0) (.slice none 0 0) (.slice none 0 0) (.slice none 0 0) (.slice none 0 0) (.slice none 0 0);obtain ⟨r0,r1,r2,r3,r4,r5,r6,r7,r8,-⟩:=zJ Ad;have Au:=zG Ap.out.1 (show w.heap.size<=w.heap.size+1 by omega) (.int .i64 0) (.int .i64 0) (.int .i64 0) (.int .u64 0) (.slice none 0 0) (.slice none 0 0) (.slice none 0 0) (.slice none 0 0) (.slice none 0 0)
   have BU:=zh (zn (zn r0 (zn r1 (zn r2 (zn r3 (zn r4 (zn r5 (zn r6 (zn r7 r8)))))))) Au);clear Ad r0 r1 r2 r3 r4 r5 r6 r7 r8 Au A7 BD Ae hf
   dsimp only [zf0]
   go_wp2_with fail;refine bodyPost_ret (zc5 _ (w.heap.size+1) _ _ _ _ _ _ _ _ _ _ _ rfl rfl BU.out.1) rfl ?_;exact ⟨_,by rw [Gq.out];rfl,by rw [Gq.out];exact .inl ⟨show (42:Nat)≠0 by decide,_,rfl,rfl⟩,BU.out.2⟩
 | some i=>
   have De:=(zbi hf).2;have HF:=zh (zn (zdh hf) De);have Gq:=zh hf;obtain ⟨j,hj⟩:∃j,j=i+1:=⟨_,rfl⟩;have i1:¬(i:Int) < 0:=ud;have i2:IntKind.i64.wrap ((i:Int)+1)=(j:Int):=by rw [zw _ uG];omega
   have Ac:h.gl.length=c.groups.length:=by rw [<- HC.out.1.groupsE,List.length_map]
   have Ah:=HC.out.1.groups.row.row;rw [Ac] at Ah;have By:=zh (zgc (c:=h.gc) (Ah.below Ap.out.1 zl) uG);have HL:=zh (zn Ac hj);clear A7 BD Ae hf De Ac Ah hj
   dsimp only [zf0]
   go_wp2_with fail;refine By.out.mono ?_;rintro e w3 ⟨v3,rfl,A6,Am⟩;have JU:=zh (ziK A6 i uaf uad);rw [<- HL.out.2] at JU;have Fg:=zh (zn A6 Am);clear By x0 x1 x2 x3 x4 x5 x6 x7 x8 y0 y1 y2 y3 y4 y5 y6 y7 y8 f0 f1 f2 f3 f4 f5 f6 f7 f8;clear A6 Am;go_wp2_with fail;refine JU.out.mono ?_;rintro e w4 ⟨v4,rfl,Bf,DH⟩;rw [HL.out.2] at Bf;have CB:Below w2.heap.size w2 w4:=Below.own Fg.out.2 Fg.out.1 DH zl Fg.out.2.size;have Ek:=(CB.block w.heap.size (zg Ap.out.2.1).1).trans Ap.out.2.1;have F8:=(CB.block (w.heap.size+1) (zg Ap.out.2.2.1).1).trans Ap.out.2.2.1;obtain ⟨ra,rn,rc,rfl⟩:=Bf.form;obtain ⟨x0,x1,x2,x3,x4,x5,x6,x7,x8,xf⟩:=zaf (h:=h) (c:=c) Ek;have g5:=xf 5;obtain ⟨w5,Co⟩:∃w5,w5=w4.setCell ⟨w.heap.size,5,none⟩ (.slice ra rn rc):=⟨_,rfl⟩;have Cw:w5.heap[w.heap.size]? =some (.cells #[.int .i64 (c.nv:Int), .int .i64 (c.ng:Int), .int .i64 (c.nb:Int), .int .u64 (c.fl:Int), .slice h.va c.vols.length h.vc, .slice ra rn rc, .slice h.ba c.books.length h.bc, .slice h.ka c.kept.length h.kc, .slice h.ta c.times.length h.tc] 54 (0,0)):=by
    rw [Co];exact heap_setCell_same _ _ 5 _ _ _ Ek
   have Bj:w4.grownBy w5 (some w.heap.size):=by rw [Co];exact zq w4 ⟨w.heap.size,5,none⟩ _
   have Fk:=(Bj.block (w.heap.size+1) (zg F8).1 uh).trans F8;have FM:=zh (zn Cw (zn Bj (zn Fk (zn Bf CB))));clear JU DH CB Ek F8 Bf xf;go_upto_region 5 with fail;rw [<- Co];clear Co x0 x1 x2 x3 x4 x5 x6 x7 x8 g5;obtain ⟨x0,x1,x2,x3,x4,x5,x6,x7,x8,xf⟩:=zJ Cw;obtain ⟨y0,y1,y2,y3,y4,y5,y6,y7,y8,yf⟩:=zJ Fk;have f0:=yf 0;have f1:=yf 1;have f2:=yf 2;have f3:=yf 3;have f4:=yf 4;have f5:=yf 5;have f6:=yf 6;have f7:=yf 7;have f8:=yf 8;clear xf yf Cw Fk Bj;go_wp2_with fail;have Ad:=zeE FM.out.2.2.1 (.int .i64 (c.nv:Int)) (.int .i64 (c.ng:Int)) (.int .i64 (c.nb:Int)) (.int .u64 (c.fl:Int)) (.slice h.va c.vols.length h.vc) (.slice ra rn rc) (.slice h.ba c.books.length h.bc) (.slice h.ka c.kept.length h.kc) (.slice h.ta c.times.length h.tc);have BL:=zae (B:=w.heap.size+1) (zD.refl _ w5) rfl (.int .i64 (c.nv:Int)) (.int .i64 (c.ng:Int)) (.int .i64 (c.nb:Int)) (.int .u64 (c.fl:Int)) (.slice h.va c.vols.length h.vc) (.slice ra rn rc) (.slice h.ba c.books.length h.bc) (.slice h.ka c.kept.length h.kc) (.slice h.ta c.times.length h.tc);obtain ⟨r0,r1,r2,r3,r4,r5,r6,r7,r8,-⟩:=zJ Ad;refine bodyPost_ret (zc5 _ (w.heap.size+1) _ _ _ _ _ _ _ _ _ _ _ rfl rfl ⟨r0,r1,r2,r3,r4,r5,r6,r7,r8⟩) rfl ?_;clear Ad r0 r1 r2 r3 r4 r5 r6 r7 r8 x0 x1 x2 x3 x4 x5 x6 x7 x8 y0 y1 y2 y3 y4 y5 y6 y7 y8 f0 f1 f2 f3 f4 f5 f6 f7 f8;generalize World.setCell _ (⟨w.heap.size+1,8,none⟩:Addr) _=W at *;have Ax:w.heap.size+2<=w2.heap.size:=by have:=Ak.out.2.1;have:=Ap.out.2.2.2.size;omega
   have ho2W:zD (fun j=> j=w.heap.size\/j=w.heap.size+1) w4 W:=(zD.turn (D:=fun j=> j=w.heap.size\/j=w.heap.size+1) FM.out.2.1 (.inl rfl)).trans (BL.more (D':=fun j=> j=w.heap.size\/j=w.heap.size+1) (fun _ h=> .inr h)) (fun _ h=> .inl h);have CF:Below w.heap.size w W:=by
    have h1:=Ap.out.1;have h2:=FM.out.2.2.2.2;exact ⟨ho2W.os.trans (h2.os.trans h1.os),ho2W.tape.trans (h2.tape.trans h1.tape),ho2W.output.trans (h2.output.trans h1.output),zs h1.size (zs h2.size ho2W.size),fun j hj=> (ho2W.block j (zt (zt hj h1.size) h2.size) ud).trans ((h2.block j (zt hj h1.size)).trans (h1.block j hj))⟩
   have A0:=HC.out.1.below CF;have Bf:=FM.out.2.2.2.1;obtain ⟨ra',rc',hv,JL,-,Ex⟩:=Bf.row zaH;simp only [Value.slice.injEq] at hv;obtain ⟨rfl,rfl,rfl⟩:=hv;have CZ:zaM Q zgQ 2 W ra (h.gl.take i++h.gl.drop (i+1)):=by
    have h0:zaM (fun j=> j=w.heap.size\/j=w.heap.size+1) zgQ 2 w4 ra (h.gl.take i++h.gl.drop (i+1)):=⟨JL,fun b o hb _ hq=> by have:=(Ex b o hb).1;omega⟩
    have h1:=h0.outs zaH uf ho2W (Q':=fun j=> j=w.heap.size\/j=w.heap.size+1) (fun _ h=> .inl h);exact ⟨h1.row,fun b o hb hl hq=> by have:=(Ex b o hb).1;have:=HC.out.2.2 b hq;omega⟩
   have hcut:∀x ∈ h.gl.take i++h.gl.drop (i+1),x ∈ h.gl:=fun x hx=> (List.mem_append.1 hx).elim (fun h=> List.mem_of_mem_take h) (fun h=> List.mem_of_mem_drop h);have hE:(h.gl.take i++h.gl.drop (i+1)).map (·.v)=c.groups.eraseP fun x=> decide ((x.id:Int)=id):=by
    rw [zi9,A0.groupsE,HF.out.1]
   rw [Gq.out];refine ⟨_,rfl, .inr ⟨rfl,{h with ga:=ra,gc:=rc,gl:=h.gl.take i++h.gl.drop (i+1)}, ?_, ?_⟩,CF⟩
   ·rw [Im.out];unfold Ch.val Ch.cells;simp only;rw [<- hE,List.length_map]
   rw [Im.out];exact ⟨A0.vols,A0.volsE,⟨CZ,fun x hx=> A0.groups.sub x (hcut x hx)⟩,hE,A0.books,A0.booksE,A0.kept,A0.times⟩
theorem zc4 (tmps:Array Value) (B:Nat) (e5:Value) (v0 v1 v2 v3 v4 v5 v6 v7 v8:Value) (W:World) (h:tmps[4]? =some (.pointer (some ⟨B,0,none⟩))) (h5:tmps[5]? =some e5)
 (q:W.cell? ⟨B,0,none⟩=some v0/\W.cell? ⟨B,1,none⟩=some v1/\W.cell? ⟨B,2,none⟩=some v2/\W.cell? ⟨B,3,none⟩=some v3/\W.cell? ⟨B,4,none⟩=some v4/\W.cell? ⟨B,5,none⟩=some v5/\W.cell? ⟨B,6,none⟩=some v6/\W.cell? ⟨B,7,none⟩=some v7/\W.cell? ⟨B,8,none⟩=some v8):
 (results Tryz.f59 tmps).run Tryz.prog W= .ok (.tuple #[.agg #[v0,v1,v2,v3,v4,v5,v6,v7,v8],e5]) W:=by
 obtain ⟨q0,q1,q2,q3,q4,q5,q6,q7,q8⟩:=q;simp [results,Tryz.results59,go_sem,h,h5,q0,q1,q2,q3,q4,q5,q6,q7,q8]
theorem zjn {Q:Nat->Prop} {w:World} {h:Ch} {c:Ct} {s0 k:Nat} (hc:zaV Q w h c) (hi:CtI c s0 k) (hQ:∀j,Q j->j < w.heap.size) (id:Int):
 Calls Tryz.prog 59 #[h.val c, .int .i64 id] w fun e w'=> ∃v,e= .returned (.tuple #[v, .int .i64 (zkE (c.books.findIdx? fun x=> decide ((x.id:Int)=id)) 43:Nat)])/\znA Q w' v (zkE (c.books.findIdx? fun x=> decide ((x.id:Int)=id)) 43) (c.unmark id)/\Below w.heap.size w w':=by
 obtain ⟨w1,Ab⟩:∃w1,w1=(w.alloc (.cells (h.cells c) 54)).alloc (.cells zcr 54):=⟨_,rfl⟩;have Aa:Below w.heap.size w w1:=by rw [Ab];exact (zr.alloc zl _).alloc uh _
 have Ai:w1.heap.size=w.heap.size+2:=by rw [Ab,World.alloc_size,World.alloc_size]
 have hX:w1.heap[w.heap.size]? =some (.cells (h.cells c) 54 (0,0)):=by rw [Ab,Below.heap_alloc _ _ _ uh];exact heap_alloc_new w _
 have hY:w1.heap[w.heap.size+1]? =some (.cells zcr 54 (0,0)):=by
  have:=heap_alloc_new (w.alloc (.cells (h.cells c) 54)) (.cells zcr 54);rw [World.alloc_size] at this;rw [Ab];exact this
 have hn:c.books.length<=8:=by have:=hi.vlen;have:=hi.glen;have:=hi.blen;omega
 have HP:=zh (zgo (hc.below Aa) ud id);have HC:=zh (zn hc (zn hn hQ));have Ak:=zh (zn Aa (zn Ai (zn hX hY)));obtain ⟨x0,x1,x2,x3,x4,x5,x6,x7,x8,-⟩:=zaf hX;clear hc hi hQ Aa Ai hX hY hn;unfold Ch.val at *;unfold Ch.cells zcr at *;go_in;go_upto_region 1 with fail;rw [<- Ab];clear Ab;go_wp2_with fail;refine HP.out.mono ?_;rintro e w2 ⟨rfl,Ae⟩;have A7:=(Ae.block w.heap.size ui).trans Ak.out.2.2.1;have BD:=(Ae.block (w.heap.size+1) ui).trans Ak.out.2.2.2;obtain ⟨x0,x1,x2,x3,x4,x5,x6,x7,x8,xf⟩:=zaf (h:=h) (c:=c) A7;obtain ⟨y0,y1,y2,y3,y4,y5,y6,y7,y8,yf⟩:=zJ BD;have Ap:=zh (zn (Ak.out.1.trans (Ae.mono Ak.out.1.size)) (zn A7 (zn BD Ae)));have f0:=yf 0;have f1:=yf 1;have f2:=yf 2;have f3:=yf 3;have f4:=yf 4;have f5:=yf 5;have f6:=yf 6;have f7:=yf 7;have f8:=yf 8;have HE:=zh (show (h.bl.findIdx? fun x=> decide ((x.v.id:Int)=id))=c.books.findIdx? fun x=> decide ((x.id:Int)=id) by rw [<- HC.out.1.booksE,zdA])
 have Im:=zh (show c.unmark id={c with books:=c.books.eraseP fun x=> decide ((x.id:Int)=id)} from rfl)
 clear HP xf yf
 cases hf:c.books.findIdx? fun x=> decide ((x.id:Int)=id) with
 | none=>
   have Gq:=zh hf;have Ad:=zeE BD (.int .i64 0) (.int .i64 0) (.int .i64 0) (.int .u64 0) (.slice none 0 0) (.slice none 0 0) (.slice none 0 0) (.slice none 0 0) (.slice none 0 0);obtain ⟨r0,r1,r2,r3,r4,r5,r6,r7,r8,-⟩:=zJ Ad;have Au:=zG Ap.out.1 (show w.heap.size<=w.heap.size+1 by omega) (.int .i64 0) (.int .i64 0) (.int .i64 0) (.int .u64 0) (.slice none 0 0) (.slice none 0 0) (.slice none 0 0) (.slice none 0 0) (.slice none 0 0)
   have BU:=zh (zn (zn r0 (zn r1 (zn r2 (zn r3 (zn r4 (zn r5 (zn r6 (zn r7 r8)))))))) Au);clear Ad r0 r1 r2 r3 r4 r5 r6 r7 r8 Au A7 BD Ae hf
   dsimp only [zf0]
   go_wp2_with fail;refine bodyPost_ret (zc4 _ (w.heap.size+1) _ _ _ _ _ _ _ _ _ _ _ rfl rfl BU.out.1) rfl ?_;exact ⟨_,by rw [Gq.out];rfl,by rw [Gq.out];exact .inl ⟨show (43:Nat)≠0 by decide,_,rfl,rfl⟩,BU.out.2⟩
 | some i=>
   have De:=(zbi hf).2;have HF:=zh (zn (zdh hf) De);have Gq:=zh hf;obtain ⟨j,hj⟩:∃j,j=i+1:=⟨_,rfl⟩;have i1:¬(i:Int) < 0:=ud;have i2:IntKind.i64.wrap ((i:Int)+1)=(j:Int):=by rw [zw _ uG];omega
   have Ac:h.bl.length=c.books.length:=by rw [<- HC.out.1.booksE,List.length_map]
   have Ah:=HC.out.1.books.row.row;rw [Ac] at Ah;have By:=zh (zga (c:=h.bc) (Ah.below Ap.out.1 zl) uG);have HL:=zh (zn Ac hj);clear A7 BD Ae hf De Ac Ah hj
   dsimp only [zf0]
   go_wp2_with fail;refine By.out.mono ?_;rintro e w3 ⟨v3,rfl,A6,Am⟩;have JU:=zh (ziJ A6 i uaf uad);rw [<- HL.out.2] at JU;have Fg:=zh (zn A6 Am);clear By x0 x1 x2 x3 x4 x5 x6 x7 x8 y0 y1 y2 y3 y4 y5 y6 y7 y8 f0 f1 f2 f3 f4 f5 f6 f7 f8;clear A6 Am;go_wp2_with fail;refine JU.out.mono ?_;rintro e w4 ⟨v4,rfl,Bf,DH⟩;rw [HL.out.2] at Bf;have CB:Below w2.heap.size w2 w4:=Below.own Fg.out.2 Fg.out.1 DH zl Fg.out.2.size;have Ek:=(CB.block w.heap.size (zg Ap.out.2.1).1).trans Ap.out.2.1;have F8:=(CB.block (w.heap.size+1) (zg Ap.out.2.2.1).1).trans Ap.out.2.2.1;obtain ⟨ra,rn,rc,rfl⟩:=Bf.form;obtain ⟨x0,x1,x2,x3,x4,x5,x6,x7,x8,xf⟩:=zaf (h:=h) (c:=c) Ek;have g6:=xf 6;obtain ⟨w5,Co⟩:∃w5,w5=w4.setCell ⟨w.heap.size,6,none⟩ (.slice ra rn rc):=⟨_,rfl⟩;have Cw:w5.heap[w.heap.size]? =some (.cells #[.int .i64 (c.nv:Int), .int .i64 (c.ng:Int), .int .i64 (c.nb:Int), .int .u64 (c.fl:Int), .slice h.va c.vols.length h.vc, .slice h.ga c.groups.length h.gc, .slice ra rn rc, .slice h.ka c.kept.length h.kc, .slice h.ta c.times.length h.tc] 54 (0,0)):=by
    rw [Co];exact heap_setCell_same _ _ 6 _ _ _ Ek
   have Bj:w4.grownBy w5 (some w.heap.size):=by rw [Co];exact zq w4 ⟨w.heap.size,6,none⟩ _
   have Fk:=(Bj.block (w.heap.size+1) (zg F8).1 uh).trans F8;have FM:=zh (zn Cw (zn Bj (zn Fk (zn Bf CB))));clear JU DH CB Ek F8 Bf xf;go_upto_region 5 with fail;rw [<- Co];clear Co x0 x1 x2 x3 x4 x5 x6 x7 x8 g6;obtain ⟨x0,x1,x2,x3,x4,x5,x6,x7,x8,xf⟩:=zJ Cw;obtain ⟨y0,y1,y2,y3,y4,y5,y6,y7,y8,yf⟩:=zJ Fk;have f0:=yf 0;have f1:=yf 1;have f2:=yf 2;have f3:=yf 3;have f4:=yf 4;have f5:=yf 5;have f6:=yf 6;have f7:=yf 7;have f8:=yf 8;clear xf yf Cw Fk Bj;go_wp2_with fail;have Ad:=zeE FM.out.2.2.1 (.int .i64 (c.nv:Int)) (.int .i64 (c.ng:Int)) (.int .i64 (c.nb:Int)) (.int .u64 (c.fl:Int)) (.slice h.va c.vols.length h.vc) (.slice h.ga c.groups.length h.gc) (.slice ra rn rc) (.slice h.ka c.kept.length h.kc) (.slice h.ta c.times.length h.tc);have BL:=zae (B:=w.heap.size+1) (zD.refl _ w5) rfl (.int .i64 (c.nv:Int)) (.int .i64 (c.ng:Int)) (.int .i64 (c.nb:Int)) (.int .u64 (c.fl:Int)) (.slice h.va c.vols.length h.vc) (.slice h.ga c.groups.length h.gc) (.slice ra rn rc) (.slice h.ka c.kept.length h.kc) (.slice h.ta c.times.length h.tc);obtain ⟨r0,r1,r2,r3,r4,r5,r6,r7,r8,-⟩:=zJ Ad;refine bodyPost_ret (zc4 _ (w.heap.size+1) _ _ _ _ _ _ _ _ _ _ _ rfl rfl ⟨r0,r1,r2,r3,r4,r5,r6,r7,r8⟩) rfl ?_;clear Ad r0 r1 r2 r3 r4 r5 r6 r7 r8 x0 x1 x2 x3 x4 x5 x6 x7 x8 y0 y1 y2 y3 y4 y5 y6 y7 y8 f0 f1 f2 f3 f4 f5 f6 f7 f8;generalize World.setCell _ (⟨w.heap.size+1,8,none⟩:Addr) _=W at *;have Ax:w.heap.size+2<=w2.heap.size:=by have:=Ak.out.2.1;have:=Ap.out.2.2.2.size;omega
   have ho2W:zD (fun j=> j=w.heap.size\/j=w.heap.size+1) w4 W:=(zD.turn (D:=fun j=> j=w.heap.size\/j=w.heap.size+1) FM.out.2.1 (.inl rfl)).trans (BL.more (D':=fun j=> j=w.heap.size\/j=w.heap.size+1) (fun _ h=> .inr h)) (fun _ h=> .inl h);have CF:Below w.heap.size w W:=by
    have h1:=Ap.out.1;have h2:=FM.out.2.2.2.2;exact ⟨ho2W.os.trans (h2.os.trans h1.os),ho2W.tape.trans (h2.tape.trans h1.tape),ho2W.output.trans (h2.output.trans h1.output),zs h1.size (zs h2.size ho2W.size),fun j hj=> (ho2W.block j (zt (zt hj h1.size) h2.size) ud).trans ((h2.block j (zt hj h1.size)).trans (h1.block j hj))⟩
   have A0:=HC.out.1.below CF;have Bf:=FM.out.2.2.2.1;obtain ⟨ra',rc',hv,JL,-,Ex⟩:=Bf.row zaG;simp only [Value.slice.injEq] at hv;obtain ⟨rfl,rfl,rfl⟩:=hv;have CZ:zaM Q zgP 3 W ra (h.bl.take i++h.bl.drop (i+1)):=by
    have h0:zaM (fun j=> j=w.heap.size\/j=w.heap.size+1) zgP 3 w4 ra (h.bl.take i++h.bl.drop (i+1)):=⟨JL,fun b o hb _ hq=> by have:=(Ex b o hb).1;omega⟩
    have h1:=h0.outs zaG uf ho2W (Q':=fun j=> j=w.heap.size\/j=w.heap.size+1) (fun _ h=> .inl h);exact ⟨h1.row,fun b o hb hl hq=> by have:=(Ex b o hb).1;have:=HC.out.2.2 b hq;omega⟩
   have hcut:∀x ∈ h.bl.take i++h.bl.drop (i+1),x ∈ h.bl:=fun x hx=> (List.mem_append.1 hx).elim (fun h=> List.mem_of_mem_take h) (fun h=> List.mem_of_mem_drop h);have hE:(h.bl.take i++h.bl.drop (i+1)).map (·.v)=c.books.eraseP fun x=> decide ((x.id:Int)=id):=by
    rw [zi9,A0.booksE,HF.out.1]
   rw [Gq.out];refine ⟨_,rfl, .inr ⟨rfl,{h with ba:=ra,bc:=rc,bl:=h.bl.take i++h.bl.drop (i+1)}, ?_, ?_⟩,CF⟩
   ·rw [Im.out];unfold Ch.val Ch.cells;simp only;rw [<- hE,List.length_map]
   rw [Im.out];exact ⟨A0.vols,A0.volsE,A0.groups,A0.groupsE,⟨CZ,fun x hx=> A0.books.sub x (hcut x hx)⟩,hE,A0.kept,A0.times⟩
end
section
open Go.RowKit
def rzE (c:Ct) (id:Int) (s n:Nat):Nat:=match c.find id with
 | none=> 40
 | some x=> (zbf x.sizes s n).1
def rzC (c:Ct) (id:Int) (s n:Nat):Ct:=match c.find id with
 | none=> c
 | some x=> c.resize id (zbf x.sizes s n).2
theorem zgu {id:Int} {l':List Mk}:∀{l:List Vl} (_:(l.map (·.id)).Pairwise (· < ·)) {i:Nat} (_:l.findIdx? (fun x=> decide ((x.id:Int)=id))=some i) {x:Vl} (_:l[i]? =some x),(l.map fun x=> if (x.id:Int)=id then {x with sizes:=l'} else x)=l.set i {x with sizes:=l'}
 | [],_,_,h,_,_=> by simp at h
 | y::l,hp,i,h,x,hx=> by
   rw [List.findIdx?_cons] at h;simp only [List.map_cons,List.pairwise_cons] at hp;rw [List.map_cons]
   split at h
   ·rename_i hy
    simp only [decide_eq_true_eq] at hy
    cases h
    simp only [List.getElem?_cons_zero,Option.some.injEq] at hx;subst hx;rw [if_pos hy,List.set_cons_zero];refine congrArg _ ?_;refine (List.map_congr_left fun z hz=> ?_).trans (List.map_id l);rw [if_neg (by have:=hp.1 z.id (List.mem_map.2 ⟨z,hz,rfl⟩);omega)]
    rfl
   rename_i hy
   simp only [decide_eq_true_eq] at hy;obtain ⟨j,hj,rfl⟩:=Option.map_eq_some_iff.1 h;simp only [List.getElem?_cons_succ] at hx;rw [if_neg hy,List.set_cons_succ,zgu hp.2 hj hx]
theorem zce (tmps:Array Value) (B:Nat) (e5:Value) (v0 v1 v2 v3 v4 v5 v6 v7 v8:Value) (W:World) (h:tmps[8]? =some (.pointer (some ⟨B,0,none⟩))) (h5:tmps[9]? =some e5)
 (q:W.cell? ⟨B,0,none⟩=some v0/\W.cell? ⟨B,1,none⟩=some v1/\W.cell? ⟨B,2,none⟩=some v2/\W.cell? ⟨B,3,none⟩=some v3/\W.cell? ⟨B,4,none⟩=some v4/\W.cell? ⟨B,5,none⟩=some v5/\W.cell? ⟨B,6,none⟩=some v6/\W.cell? ⟨B,7,none⟩=some v7/\W.cell? ⟨B,8,none⟩=some v8):
 (results Tryz.f91 tmps).run Tryz.prog W= .ok (.tuple #[.agg #[v0,v1,v2,v3,v4,v5,v6,v7,v8],e5]) W:=by
 obtain ⟨q0,q1,q2,q3,q4,q5,q6,q7,q8⟩:=q;simp [results,Tryz.results91,go_sem,h,h5,q0,q1,q2,q3,q4,q5,q6,q7,q8]
theorem zgt {Q:Nat->Prop} {w:World} {h:Ch} {c:Ct} {s0 k:Nat} (hc:zaV Q w h c) (hi:CtI c s0 k) (hQ:∀j,Q j->j < w.heap.size) (id:Int) (n s:Nat) (Jn:1<=n/\n<=32):
 Calls Tryz.prog 91 #[h.val c, .int .i64 id, .int .i64 (n:Int), .int .u64 (s:Int)] w fun e w'=> ∃v,e= .returned (.tuple #[v, .int .i64 (rzE c id s n:Nat)])/\znA Q w' v (rzE c id s n) (rzC c id s n)/\Below w.heap.size w w':=by
 obtain ⟨w1,Ab⟩:∃w1,w1=(w.alloc (.cells (h.cells c) 54)).alloc (.cells zcr 54):=⟨_,rfl⟩;have Aa:Below w.heap.size w w1:=by rw [Ab];exact (zr.alloc zl _).alloc uh _
 have Ai:w1.heap.size=w.heap.size+2:=by rw [Ab,World.alloc_size,World.alloc_size]
 have hX:w1.heap[w.heap.size]? =some (.cells (h.cells c) 54 (0,0)):=by rw [Ab,Below.heap_alloc _ _ _ uh];exact heap_alloc_new w _
 have hY:w1.heap[w.heap.size+1]? =some (.cells zcr 54 (0,0)):=by
  have:=heap_alloc_new (w.alloc (.cells (h.cells c) 54)) (.cells zcr 54);rw [World.alloc_size] at this;rw [Ab];exact this
 have hn:c.vols.length<=8:=by have:=hi.vlen;have:=hi.glen;have:=hi.blen;omega
 have HP:=zh (zgq (hc.below Aa) ud id);have HC:=zh (zn hc (zn hn (zn hQ hi)));clear hi;have Ak:=zh (zn Aa (zn Ai (zn hX hY)));obtain ⟨x0,x1,x2,x3,x4,x5,x6,x7,x8,-⟩:=zaf hX;clear hc hQ Aa Ai hX hY hn;unfold Ch.val at *;unfold Ch.cells zcr at *;go_in;go_upto_region 1 with fail;rw [<- Ab];clear Ab;go_wp2_with fail;refine HP.out.mono ?_;rintro e w2 ⟨rfl,Ae⟩;have A7:=(Ae.block w.heap.size ui).trans Ak.out.2.2.1;have BD:=(Ae.block (w.heap.size+1) ui).trans Ak.out.2.2.2;obtain ⟨x0,x1,x2,x3,x4,x5,x6,x7,x8,xf⟩:=zaf (h:=h) (c:=c) A7;obtain ⟨y0,y1,y2,y3,y4,y5,y6,y7,y8,yf⟩:=zJ BD;have Ap:=zh (zn (Ak.out.1.trans (Ae.mono Ak.out.1.size)) (zn A7 (zn BD Ae)));have f0:=yf 0;have f1:=yf 1;have f2:=yf 2;have f3:=yf 3;have f4:=yf 4;have f5:=yf 5;have f6:=yf 6;have f7:=yf 7;have f8:=yf 8;have HN:=zh Jn;clear HP xf yf Jn
 cases hf:c.vols.findIdx? fun x=> decide ((x.id:Int)=id) with
 | none=>
   have hE:rzE c id s n=40/\rzC c id s n=c:=by unfold rzE rzC;rw [show c.find id=none from zbt hf];exact ⟨rfl,rfl⟩
   have Gq:=zh hE;clear hE;have Ad:=zeE BD (.int .i64 0) (.int .i64 0) (.int .i64 0) (.int .u64 0) (.slice none 0 0) (.slice none 0 0) (.slice none 0 0) (.slice none 0 0) (.slice none 0 0);obtain ⟨r0,r1,r2,r3,r4,r5,r6,r7,r8,-⟩:=zJ Ad;have Au:=zG Ap.out.1 (show w.heap.size<=w.heap.size+1 by omega) (.int .i64 0) (.int .i64 0) (.int .i64 0) (.int .u64 0) (.slice none 0 0) (.slice none 0 0) (.slice none 0 0) (.slice none 0 0) (.slice none 0 0)
   have BU:=zh (zn (zn r0 (zn r1 (zn r2 (zn r3 (zn r4 (zn r5 (zn r6 (zn r7 r8)))))))) Au);clear Ad r0 r1 r2 r3 r4 r5 r6 r7 r8 Au A7 BD Ae hf
   dsimp only [zf0]
   go_wp2_with fail;refine bodyPost_ret (zce _ (w.heap.size+1) _ _ _ _ _ _ _ _ _ _ _ rfl rfl BU.out.1) rfl ?_;exact ⟨_,by rw [Gq.out.1];rfl,by rw [Gq.out.1];exact .inl ⟨show (40:Nat)≠0 by decide,_,rfl,rfl⟩,BU.out.2⟩
 | some i=>
   obtain ⟨Kw,De⟩:=zbi hf;have Ac:h.vl.length=c.vols.length:=by rw [<- HC.out.1.volsE,List.length_map]
   obtain ⟨x,hx⟩:∃x,h.vl[i]? =some x:=⟨_,ze ud⟩;have IS:c.vols[i]? =some x.v:=by rw [<- HC.out.1.volsE,List.getElem?_map,hx];rfl
   have Nz:c.find id=some x.v:=Kw.trans IS;have Ea:=(HC.out.2.2.2.vols x.v (zm IS)).sizes;have AP:=HC.out.1.vols.sub x (zm hx);have HS:=zh (zij (c:=x.c) (AP.row.below Ap.out.1 zl) (by have:=Ea.len;omega) (fun m hm=> (Ea.fit m hm).2.2) s n HN.out)
   obtain ⟨gb,go,DS,SX⟩:=HC.out.1.vols.row.row.2 i x hx;have Fs:=SX 2 (.slice x.a x.v.sizes.length x.c) rfl;have YE:w2.cell? ⟨gb,go+i * 3+2,none⟩=some (.slice x.a x.v.sizes.length x.c):=(zY (Ap.out.1.block gb (zgC Fs)) _).trans Fs;have hE:rzE c id s n=(zbf x.v.sizes s n).1/\rzC c id s n=c.resize id (zbf x.v.sizes s n).2:=by unfold rzE rzC;rw [Nz];exact ⟨rfl,rfl⟩
   have HE:=zh hE;have Ah:=HC.out.1.vols.row.row;rw [Ac] at Ah;have HL:=zh (zn Ac (zn hx (zn IS Ah)));have Tu:∀l',c.resize id l'={c with vols:=c.vols.set i {x.v with sizes:=l'}}:=fun l'=> by
    unfold Ct.resize;rw [zgu HC.out.2.2.2.ids hf IS]
   have ZP:=zh Tu;have i0:¬(i:Int) < 0:=ud;have i1:(0:Int)<=(i:Int):=ud;have i2:(i:Int) < (c.vols.length:Int):=ud;have Yh:=DS;have x4':=x4;rw [DS] at x4';clear A7 BD Ae hf De Ac hx IS Kw Nz Ea AP SX Fs hE Ah Tu x4
   dsimp only [zf0]
   go_wp2_with fail;refine HS.out.mono ?_;rintro e w3 ⟨v3,rfl,A6,Am⟩;have C0:=(Am.block w.heap.size (zg Ap.out.2.1).1).trans Ap.out.2.1;have G3:=(Am.block (w.heap.size+1) (zg Ap.out.2.2.1).1).trans Ap.out.2.2.1;have El:=Ap.out.1.trans (Am.mono Ap.out.1.size);have Fg:=zh (zn A6 (zn Am (zn C0 (zn G3 El))));clear x0 x1 x2 x3 x4' x5 x6 x7 x8 y0 y1 y2 y3 y4 y5 y6 y7 y8 f0 f1 f2 f3 f4 f5 f6 f7 f8 YE HS DS Yh;obtain ⟨x0,x1,x2,x3,x4,x5,x6,x7,x8,xf⟩:=zaf (h:=h) (c:=c) C0;obtain ⟨y0,y1,y2,y3,y4,y5,y6,y7,y8,yf⟩:=zJ G3;have f0:=yf 0;have f1:=yf 1;have f2:=yf 2;have f3:=yf 3;have f4:=yf 4;have f5:=yf 5;have f6:=yf 6;have f7:=yf 7;have f8:=yf 8;have vC:=zh (Eq.refl (zbf x.v.sizes s n));obtain ⟨⟨se,sl⟩,VE⟩:∃r:Nat × List Mk,r=zbf x.v.sizes s n:=⟨_,rfl⟩;have LH:Hid (rzE c id s n=se/\rzC c id s n=c.resize id sl):=zh (by rw [HE.out.1,HE.out.2,<- VE];exact ⟨rfl,rfl⟩)
   have HO:Hid (zK zbZ 2 129 w3 w2.heap.size v3 sl):=zh (by rw [show sl=(zbf x.v.sizes s n).2 by rw [<- VE]];exact A6)
   rw [<- VE];clear vC HE VE A6 Am El xf yf
   dsimp only
   by_cases h0:se=0
   ·subst h0;have e0:((((0:Nat):Int)==0))=true:=rfl;have By:=zh (zd7 (c:=h.vc) (HL.out.2.2.2.below Fg.out.2.2.2.2 zl) uG);clear C0 G3;go_wp2_with fail;refine By.out.mono ?_;rintro e w4 ⟨v4,rfl,Bf,Ar⟩;rcases Bf.cases with ⟨-,he⟩ | ⟨g,cap,rfl,Bc,BF,hR⟩
    ·exfalso;have:=HL.out.2.1;rw [he] at this;simp at this
    obtain ⟨ra,rn,rc,rfl⟩:=HO.out.form;obtain ⟨sa,sc,hv,IO,-,IN⟩:=HO.out.row zR;simp only [Value.slice.injEq] at hv;obtain ⟨rfl,rfl,rfl⟩:=hv;have Ek:=(Ar.block w.heap.size (zg Fg.out.2.2.1).1).trans Fg.out.2.2.1;have F8:=(Ar.block (w.heap.size+1) (zg Fg.out.2.2.2.1).1).trans Fg.out.2.2.2.1;have Oa:=Fg.out.2.1.size;have Ax:=Ap.out.2.2.2.size;have Ai:=Ak.out.2.1;have Jf:g≠w.heap.size/\g≠w.heap.size+1:=by constructor <;> omega
    obtain ⟨w5,Co⟩:∃w5,w5=w4.setCell ⟨w.heap.size,4,none⟩ (.slice (some ⟨g,0,none⟩) h.vl.length cap):=⟨_,rfl⟩;have Cw:w5.heap[w.heap.size]? =some (.cells #[.int .i64 (c.nv:Int), .int .i64 (c.ng:Int), .int .i64 (c.nb:Int), .int .u64 (c.fl:Int), .slice (some ⟨g,0,none⟩) h.vl.length cap, .slice h.ga c.groups.length h.gc, .slice h.ba c.books.length h.bc, .slice h.ka c.kept.length h.kc, .slice h.ta c.times.length h.tc] 54 (0,0)):=by
        rw [Co];exact heap_setCell_same _ _ 4 _ _ _ Ek
    have Bj:w4.grownBy w5 (some w.heap.size):=by rw [Co];exact zq w4 ⟨w.heap.size,4,none⟩ _
    have Fk:=(Bj.block (w.heap.size+1) (zg F8).1 uh).trans F8;have Db:=hR.heap (Bj.block g hR.lt uF);obtain ⟨q1,q2,q3,q4,q5⟩:=Db.setC zai (j:=2) (v:= .slice ra sl.length rc) (y:=(⟨{x.v with sizes:=sl},ra,rc⟩:Vh)) HL.out.2.1 uf rfl
    obtain ⟨w6,GW⟩:∃w6,w6=w5.setCell ⟨g,i * 3+2,none⟩ (.slice ra sl.length rc):=⟨_,rfl⟩;rw [<- GW] at q1 q2;have JF:=(q2.block w.heap.size (zg Cw).1 uF).trans Cw;have jY:=(q2.block (w.heap.size+1) (zg Fk).1 (by simp only [ne_eq,Option.some.injEq];exact fun h=> Jf.2 uau)).trans Fk
    have HW:=zh (zn q1 (zn q2 (zn Bj (zn Ar (zn IO (zn IN (zn JF (zn jY (zn Bc Jf)))))))));have f4:=(zaf (h:=h) (c:=c) Ek).2.2.2.2.2.2.2.2.2 4;have i3:(i:Int) < (h.vl.length:Int):=by have:=HL.out.1;omega
    clear x0 x1 x2 x3 x4 x5 x6 x7 x8 y0 y1 y2 y3 y4 y5 y6 y7 y8 f0 f1 f2 f3 f5 f6 f7 f8 By;obtain ⟨x0,x1,x2,x3,x4,x5,x6,x7,x8,-⟩:=zaf (h:=h) (c:=c) Ek;obtain ⟨z0,z1,z2,z3,z4,z5,z6,z7,z8,-⟩:=zJ Cw;clear Ek F8 Cw Fk JF jY q1 q2 Bj Ar IO IN Bc Jf BF hR Db Bf Ai Ax Oa;go_upto_region 8 with fail;rw [<- Co];clear Co x0 x1 x2 x3 x4 x5 x6 x7 x8 f4;go_upto_region 9 with fail;rw [<- GW];clear GW z0 z1 z2 z3 z4 z5 z6 z7 z8 q3 q5;obtain ⟨x0,x1,x2,x3,x4,x5,x6,x7,x8,-⟩:=zJ HW.out.2.2.2.2.2.2.1;obtain ⟨y0,y1,y2,y3,y4,y5,y6,y7,y8,yf⟩:=zJ HW.out.2.2.2.2.2.2.2.1;have f0:=yf 0;have f1:=yf 1;have f2:=yf 2;have f3:=yf 3;have f4:=yf 4;have f5:=yf 5;have f6:=yf 6;have f7:=yf 7;have f8:=yf 8;clear yf;go_wp2_with fail;have Ad:=zeE HW.out.2.2.2.2.2.2.2.1 (.int .i64 (c.nv:Int)) (.int .i64 (c.ng:Int)) (.int .i64 (c.nb:Int)) (.int .u64 (c.fl:Int)) (.slice (some ⟨g,0,none⟩) h.vl.length cap) (.slice h.ga c.groups.length h.gc) (.slice h.ba c.books.length h.bc) (.slice h.ka c.kept.length h.kc) (.slice h.ta c.times.length h.tc);have BL:=zae (B:=w.heap.size+1) (zD.refl _ w6) rfl (.int .i64 (c.nv:Int)) (.int .i64 (c.ng:Int)) (.int .i64 (c.nb:Int)) (.int .u64 (c.fl:Int)) (.slice (some ⟨g,0,none⟩) h.vl.length cap) (.slice h.ga c.groups.length h.gc) (.slice h.ba c.books.length h.bc) (.slice h.ka c.kept.length h.kc) (.slice h.ta c.times.length h.tc);obtain ⟨r0,r1,r2,r3,r4,r5,r6,r7,r8,-⟩:=zJ Ad;refine bodyPost_ret (zce _ (w.heap.size+1) _ _ _ _ _ _ _ _ _ _ _ rfl rfl ⟨r0,r1,r2,r3,r4,r5,r6,r7,r8⟩) rfl ?_;clear Ad r0 r1 r2 r3 r4 r5 r6 r7 r8 x0 x1 x2 x3 x4 x5 x6 x7 x8 y0 y1 y2 y3 y4 y5 y6 y7 y8 f0 f1 f2 f3 f4 f5 f6 f7 f8;generalize World.setCell _ (⟨w.heap.size+1,8,none⟩:Addr) _=W at *;obtain ⟨q1,q2,Bj,Ar,IO,IN,-,-,Bc,Jf⟩:=HW.out;have Oa:=Fg.out.2.1.size;have Ax:=Ap.out.2.2.2.size;have Ai:=Ak.out.2.1;have h6W:zD (fun j=> j=w.heap.size\/j=w.heap.size+1) w6 W:=BL.more (D':=fun j=> j=w.heap.size\/j=w.heap.size+1) (fun _ h=> .inr h);have h4W:zD (fun j=> j=w.heap.size\/j=w.heap.size+1\/j=g) w4 W:=((zD.turn (D:=fun j=> j=w.heap.size\/j=w.heap.size+1\/j=g) Bj (.inl rfl)).trans (zD.turn (D:=fun j=> j=w.heap.size\/j=w.heap.size+1\/j=g) q2 (.inr (.inr rfl))) (fun _ h=> .inl h)).trans (BL.more (D':=fun j=> j=w.heap.size\/j=w.heap.size+1\/j=g) (fun _ h=> .inr (.inl h))) (fun _ h=> .inl h);have h3W:zD (fun j=> j=w.heap.size\/j=w.heap.size+1\/w3.heap.size<=j) w3 W:=(zD.of_below Ar).trans (h4W.more (D':=fun j=> j=w.heap.size\/j=w.heap.size+1\/w3.heap.size<=j) (fun j h=> by omega)) (fun _ h=> .inl h)
    have CF:Below w.heap.size w W:=by
        have h1:=Fg.out.2.2.2.2;exact ⟨h3W.os.trans h1.os,h3W.tape.trans h1.tape,h3W.output.trans h1.output,zs h1.size h3W.size,fun j hj=> (h3W.block j (zt hj h1.size) (by have:=h1.size;omega)).trans (h1.block j hj)⟩
    have A0:=HC.out.1.below CF;have yh:=(q1.heap (h6W.block g q1.lt ud)).row zai;have VC:zaM Q zbZ 2 W ra sl:=by
        have h0:zaM (fun j=> j < w2.heap.size\/w3.heap.size<=j) zbZ 2 w3 ra sl:=⟨IO,fun b o hb hl hq=> by
         have:=(IN b o hb).1;have h9:zaM (fun _=> False) zbZ 2 w3 ra sl:=⟨IO,fun _ _ _ _ h=> h⟩;have:=h9.lt zR uf b o hb hl
         omega⟩
        have h1:=h0.outs zR uf (h3W.more (D':=fun j=> j < w2.heap.size\/w3.heap.size<=j) (fun j h=> by omega)) (Q':=fun j=> j < w2.heap.size) (fun _ h=> .inl (.inl h))
        exact ⟨h1.row,fun b o hb hl hq=> h1.far b o hb hl (by have:=HC.out.2.2.1 b hq;omega)⟩
    have Ac:=HL.out.1;refine ⟨_,by rw [LH.out.1];rfl, .inr ⟨LH.out.1,{h with va:=some ⟨g,0,none⟩,vc:=cap,vl:=h.vl.set i ⟨{x.v with sizes:=sl},ra,rc⟩}, ?_, ?_⟩,CF⟩
    ·rw [LH.out.2,ZP.out];unfold Ch.val Ch.cells;simp only [List.length_set,Ac]
    rw [LH.out.2,ZP.out];refine ⟨⟨⟨yh,fun b o hb _ hq=> ?_⟩,fun y hy=> ?_⟩, ?_,A0.groups,A0.groupsE,A0.books,A0.booksE,A0.kept,A0.times⟩
    ·simp only [Option.some.injEq,Addr.mk.injEq,and_true] at hb;have:=HC.out.2.2.1 b hq
     omega
    ·rcases List.mem_or_eq_of_mem_set hy with hy | hy
     ·exact A0.vols.sub y hy
     subst hy;exact VC
    show (h.vl.set i ⟨{x.v with sizes:=sl},ra,rc⟩).map Vh.v=c.vols.set i {x.v with sizes:=sl}
    rw [List.map_set,A0.volsE]
   have e0:(((se:Int)==0))=false:=by rw [beq_eq_false_iff_ne];omega
   have Ad:=zeE G3 (.int .i64 0) (.int .i64 0) (.int .i64 0) (.int .u64 0) (.slice none 0 0) (.slice none 0 0) (.slice none 0 0) (.slice none 0 0) (.slice none 0 0);obtain ⟨r0,r1,r2,r3,r4,r5,r6,r7,r8,-⟩:=zJ Ad;have Au:=zG Fg.out.2.2.2.2 (show w.heap.size<=w.heap.size+1 by omega) (.int .i64 0) (.int .i64 0) (.int .i64 0) (.int .u64 0) (.slice none 0 0) (.slice none 0 0) (.slice none 0 0) (.slice none 0 0) (.slice none 0 0)
   have BU:=zh (zn (zn r0 (zn r1 (zn r2 (zn r3 (zn r4 (zn r5 (zn r6 (zn r7 r8)))))))) Au);clear Ad r0 r1 r2 r3 r4 r5 r6 r7 r8 Au C0 G3;go_wp2_with fail;refine bodyPost_ret (zce _ (w.heap.size+1) _ _ _ _ _ _ _ _ _ _ _ rfl rfl BU.out.1) rfl ?_;exact ⟨_,by rw [LH.out.1];rfl, .inl ⟨by rw [LH.out.1];exact h0,_,rfl,rfl⟩,BU.out.2⟩
end
end Go.Proofs.YtaoceecfjlkmdaaGreat
