/- Lemmas of the walks, merged and pressed by press.py. Conditions: those of each theorem. -/
import Derived.Test.YtfldlfladcfggaaGreatM20
import Derived.Test.YtfldlfladcfggaaGreatM3
import Derived.Laws.OwnMore
import Derived.Maps.AppendAt
import Derived.Deep.RegionLaw
set_option maxRecDepth 100000
set_option maxHeartbeats 64000000
set_option linter.all false
namespace Go.Proofs.YtfldlfladcfggaaGreat
section
open Go.RowKit
theorem zY {w w':World} {b:Nat} (h:w'.heap[b]? =w.heap[b]?) (o:Nat):w'.cell? ⟨b,o,none⟩=w.cell? ⟨b,o,none⟩:=by
 simp only [World.cell?,h]
theorem zgC {w:World} {b o:Nat} {v:Value} (h:w.cell? ⟨b,o,none⟩=some v):b < w.heap.size:=by
 rcases Nat.lt_or_ge b w.heap.size with h1 | h1
 ·exact h1
 ·have h2:w.heap[b]? =none:=Array.getElem?_eq_none h1;simp [World.cell?,h2] at h
structure zaM {α:Type} (Q:Nat→Prop) (enc:α→List Value) (k:Nat) (w:World) (a:Option Addr) (l:List α):Prop where
 row:zM enc k w a l.length l
 far:∀b o,a=some ⟨b,o,none⟩→l≠ []→¬Q b
section
variable {α:Type} {enc:α→List Value} {k:Nat} {Q:Nat→Prop} {w:World}
theorem zaM.nil (a:Option Addr):zaM Q enc k w a []:=⟨zM.nil enc k w a,fun _ _ _ h=> absurd rfl h⟩
theorem zaM.lt (hk:∀x,(enc x).length=k) (BX:0 < k) {a:Option Addr} {l:List α} (h:zaM Q enc k w a l) (b o:Nat) (ha:a=some ⟨b,o,none⟩) (hl:l≠ []):b < w.heap.size:=by
 cases l with
 | nil=> exact absurd rfl hl
 | cons x l=>
   obtain ⟨b',o',e,hc⟩:=h.row.2 0 x rfl;rw [ha] at e;simp only [Option.some.injEq,Addr.mk.injEq,and_true] at e;obtain ⟨rfl,rfl⟩:=e;have h0:(enc x)[0]? =some ((enc x)[0]'(by rw [hk];exact BX)):=ze _
   exact zgC (hc 0 _ h0)
theorem zaM.outs (hk:∀x,(enc x).length=k) (BX:0 < k) {a:Option Addr} {l:List α} (h:zaM Q enc k w a l) {w':World} {Q':Nat→Prop} (ho:zD Q w w') (hQ:∀j,Q' j→Q j∨w.heap.size≤j):zaM Q' enc k w' a l:=by
 refine ⟨⟨rfl,fun i r hr=> ?_⟩,fun b o ha hl hq=> ?_⟩
 ·obtain ⟨b,o,e,hc⟩:=h.row.2 i r hr;have hl:l≠ []:=fun e=> by rw [e] at hr;simp at hr
  have hb:=ho.block b (h.lt hk BX b o e hl) (h.far b o e hl);exact ⟨b,o,e,fun j x hx=> (zY hb _).trans (hc j x hx)⟩
 ·rcases hQ b hq with h1 | h1
  ·exact h.far b o ha hl h1
  ·have:=h.lt hk BX b o ha hl;omega
end
def zbZ (m:Mk):List Value:= [.int .u64 (m.1:Int), .int .u64 (m.2:Int)]
theorem zR (m:Mk):(zbZ m).length=2:=rfl
theorem zcv (m:Mk):∀u ∈ zbZ m,u.oneCell'=true:=fun u hu=> by
 simp [zbZ] at hu;rcases hu with rfl | rfl <;> rfl
def zcm (z:Int):List Value:= [.int .i64 z]
theorem zT (z:Int):(zcm z).length=1:=rfl
structure Vh where
 v:Vl
 a:Option Addr
 c:Nat
structure Gh where
 v:Gp
 a:Option Addr
 c:Nat
structure Bh where
 v:Bk
 a:Option Addr
 c:Nat
def zeK (x:Vh):List Value:= [.int .i64 (x.v.id:Int), .int .u64 (x.v.born:Int), .slice x.a x.v.sizes.length x.c]
def zgQ (x:Gh):List Value:= [.int .i64 (x.v.id:Int), .slice x.a x.v.ms.length x.c]
def zgP (x:Bh):List Value:= [.int .i64 (x.v.id:Int), .int .u64 (x.v.seq:Int), .slice x.a x.v.ms.length x.c]
theorem zai (x:Vh):(zeK x).length=3:=rfl
theorem zaH (x:Gh):(zgQ x).length=2:=rfl
theorem zaG (x:Bh):(zgP x).length=3:=rfl
theorem zdH (x:Vh):∀u ∈ zeK x,u.oneCell'=true:=fun u hu=> by
 simp [zeK] at hu;rcases hu with rfl | rfl | rfl <;> rfl
structure znK (Q:Nat→Prop) (w:World) (a:Option Addr) (l:List Vh):Prop where
 row:zaM Q zeK 3 w a l
 sub:∀x ∈ l,zaM Q zbZ 2 w x.a x.v.sizes
structure GpsR (Q:Nat→Prop) (w:World) (a:Option Addr) (l:List Gh):Prop where
 row:zaM Q zgQ 2 w a l
 sub:∀x ∈ l,zaM Q zcm 1 w x.a x.v.ms
structure BksR (Q:Nat→Prop) (w:World) (a:Option Addr) (l:List Bh):Prop where
 row:zaM Q zgP 3 w a l
 sub:∀x ∈ l,zaM Q zcm 1 w x.a x.v.ms
theorem znK.outs {Q Q':Nat→Prop} {w w':World} {a:Option Addr} {l:List Vh} (h:znK Q w a l) (ho:zD Q w w') (hQ:∀j,Q' j→Q j∨w.heap.size≤j):znK Q' w' a l:=
 ⟨h.row.outs zai (by decide) ho hQ,fun x hx=> (h.sub x hx).outs zR (by decide) ho hQ⟩
theorem GpsR.outs {Q Q':Nat→Prop} {w w':World} {a:Option Addr} {l:List Gh} (h:GpsR Q w a l) (ho:zD Q w w') (hQ:∀j,Q' j→Q j∨w.heap.size≤j):GpsR Q' w' a l:=
 ⟨h.row.outs zaH (by decide) ho hQ,fun x hx=> (h.sub x hx).outs zT (by decide) ho hQ⟩
theorem BksR.outs {Q Q':Nat→Prop} {w w':World} {a:Option Addr} {l:List Bh} (h:BksR Q w a l) (ho:zD Q w w') (hQ:∀j,Q' j→Q j∨w.heap.size≤j):BksR Q' w' a l:=
 ⟨h.row.outs zaG (by decide) ho hQ,fun x hx=> (h.sub x hx).outs zT (by decide) ho hQ⟩
structure Ch where
 va:Option Addr
 vc:Nat
 vl:List Vh
 ga:Option Addr
 gc:Nat
 gl:List Gh
 ba:Option Addr
 bc:Nat
 bl:List Bh
 ka:Option Addr
 kc:Nat
 ta:Option Addr
 tc:Nat
def Ch.cells (h:Ch) (c:Ct):Array Value:=#[.int .i64 (c.nv:Int), .int .i64 (c.ng:Int), .int .i64 (c.nb:Int), .int .u64 (c.fl:Int), .slice h.va c.vols.length h.vc, .slice h.ga c.groups.length h.gc, .slice h.ba c.books.length h.bc, .slice h.ka c.kept.length h.kc, .slice h.ta c.times.length h.tc]
def Ch.val (h:Ch) (c:Ct):Value:= .agg (h.cells c)
structure zaV (Q:Nat→Prop) (w:World) (h:Ch) (c:Ct):Prop where
 vols:znK Q w h.va h.vl
 volsE:h.vl.map (·.v)=c.vols
 groups:GpsR Q w h.ga h.gl
 groupsE:h.gl.map (·.v)=c.groups
 books:BksR Q w h.ba h.bl
 booksE:h.bl.map (·.v)=c.books
 kept:zaM Q zb0 1 w h.ka c.kept
 times:zaM Q zbZ 2 w h.ta c.times
theorem zaV.outs {Q Q':Nat→Prop} {w w':World} {h:Ch} {c:Ct} (hc:zaV Q w h c) (ho:zD Q w w') (hQ:∀j,Q' j→Q j∨w.heap.size≤j):zaV Q' w' h c:=
 ⟨hc.vols.outs ho hQ,hc.volsE,hc.groups.outs ho hQ,hc.groupsE,hc.books.outs ho hQ,hc.booksE,hc.kept.outs zah (by decide) ho hQ,hc.times.outs zR (by decide) ho hQ⟩
theorem zaV.below {Q:Nat→Prop} {w w':World} {h:Ch} {c:Ct} (hc:zaV Q w h c) (hb:Below w.heap.size w w'):zaV Q w' h c:=hc.outs (zD.of_below hb) fun _ h=> .inl h
theorem zK.pushG {α:Type} {enc:α→List Value} {k:Nat} (hk:∀x,(enc x).length=k) (BX:0 < k) (BA:∀x,∀u ∈ enc x,u.oneCell'=true) {P:Program} {t e:TypeId} {z:Value} {bytes:Nat} (ht:P.underlying t=some (.slice e)) (hi:(P.info? e).map (fun i=> (i.zero,i.size,i.bytes))=some (some z,k,bytes)) (Gk:z.cells.size=k) (FP:bytes≤1000)
 {w:World} {B:Nat} {v:Value} {l:List α} (h:zK enc k e w B v l) (x:α) (hl:l.length≤100000000) (hB:B≤w.heap.size):
 ∃v' w',(Builtin.append_ #[t,t] t #[v, .slice (some ⟨w.heap.size,0,none⟩) 1 1]).run P (w.alloc (.cells (enc x).toArray e))= .ok v' w'∧zK enc k e w' B v' (l++ [x])∧w.grownBy w' v.ownBlock:=by
 obtain ⟨i0,hi,AG,Ai,Ax⟩:=zW hi;have PL:(l.length+1) * bytes≤(l.length+1) * 1000:=Nat.mul_le_mul_left _ FP;obtain ⟨v',w',hr,ho,hg,-⟩:=run_append_own (P:=P) (w.alloc (.cells (enc x).toArray e)) B t t e i0 z k bytes ht hi AG Ai Ax Gk BX v l.length _ (h.alloc _) ⟨w.heap.size,0,none⟩ 1 1 (zB enc [x]) (by rw [zU enc k hk];rfl) (zM.cells hk BX (zM.new w x e)) (fun u hu=> by
  obtain ⟨y,-,hy⟩:=List.mem_flatMap.1 hu;exact BA y u hy) (by unfold maxLen;omega) (by omega) (by rw [World.alloc_size];omega)
 refine ⟨v',w',hr, ?_,⟨hg.os,hg.tape,hg.output,zs (by simp) hg.size,fun j hj Aj=> ?_⟩⟩
 ·unfold zK;rw [zaj,List.length_append];exact ho
 ·rw [hg.block j (by rw [World.alloc_size];omega) Aj,Below.heap_alloc _ _ _ hj]
theorem zgb {α:Type} {enc:α→List Value} {k:Nat} (hk:∀x,(enc x).length=k) (BX:0 < k) (BA:∀x,∀u ∈ enc x,u.oneCell'=true) {P:Program} {t e:TypeId} {z:Value} {bytes:Nat} (ht:P.underlying t=some (.slice e)) (hi:(P.info? e).map (fun i=> (i.zero,i.size,i.bytes))=some (some z,k,bytes)) (Gk:z.cells.size=k) (FP:bytes≤1000)
 {w:World} {x:Addr} {n:Nat} (c:Nat) {l:List α} (h:zM enc k w (some x) n l) (hn:n≤1000000):
 ∃v' w',(Builtin.append_ #[t,t] t #[.slice (some ⟨w.heap.size,0,none⟩) 0 0, .slice (some x) n c]).run P (w.alloc (.cells #[] e))= .ok v' w'∧zK enc k e w' w.heap.size v' l∧Below w.heap.size w w':=by
 obtain ⟨i0,AD,AG,Ai,Ax⟩:=zW hi;have Aq:Below w.heap.size w (w.alloc (.cells #[] e)):=zr.alloc zl _;have Af:zK enc k e (w.alloc (.cells #[] e)) w.heap.size (.slice (some ⟨w.heap.size,0,none⟩) 0 0) []:=World.ownsRow_made w #[] 0 zl (Nat.zero_le _) (by simp)
 have PL:(0+n) * bytes≤1000000 * 1000:=Nat.mul_le_mul (by omega) FP
 have E9:=h.1;obtain ⟨v',w',BE,ho,hg,-⟩:=run_append_own (P:=P) (w.alloc (.cells #[] e)) w.heap.size t t e i0 z k bytes ht AD AG Ai Ax Gk BX _ 0 _ Af x n c (zB enc l) (by rw [zU enc k hk,E9]) (fun j u hu=> by
  cases l with
  | nil=> simp [zB] at hu
  | cons y l=>
    obtain ⟨b,o,e1,-⟩:=h.2 0 y rfl;simp only [Option.some.injEq] at e1;subst e1;exact zM.cells hk BX (h.alloc _) j u hu) (fun u hu=> by
  obtain ⟨y,-,hy⟩:=List.mem_flatMap.1 hu;exact BA y u hy) (by unfold maxLen;omega) (by omega) Aq.size
 refine ⟨v',w',BE, ?_,Below.own Aq Af hg zl Aq.size⟩;unfold zK;simp only [zB,List.flatMap_nil,List.nil_append,Nat.zero_add] at ho;rw [E9];exact ho
end
section
open Go.RowKit
def At (w:World) (b:Nat) (t:TypeId):Prop:=∃arr,w.heap[b]? =some (.cells arr t (0,0))
theorem At.lt {w:World} {b:Nat} {t:TypeId} (h:At w b t):b < w.heap.size:=by
 obtain ⟨arr,h⟩:=h;exact (zg h).1
theorem At.ne {w:World} {b c:Nat} {t u:TypeId} (h:At w b t) (h':At w c u) (Aj:t≠u):b≠c:=by
 rintro rfl;obtain ⟨arr,h⟩:=h;obtain ⟨arr',h'⟩:=h';rw [h] at h'
 cases h'
 exact Aj rfl
theorem At.heap {w w':World} {g:Nat} {t:TypeId} (h:At w g t) (e:w'.heap[g]? =w.heap[g]?):At w' g t:=by
 obtain ⟨arr,h⟩:=h;exact ⟨arr,by rw [e];exact h⟩
theorem Bs.heap {w w':World} {g o n:Nat} {l:List UInt8} (h:Bs w (some ⟨g,o,none⟩) n l) (e:w'.heap[g]? =w.heap[g]?):Bs w' (some ⟨g,o,none⟩) n l:=by
 have hl:=h.length;refine Is.mk' (by simp;omega) fun i hi=> ?_
 obtain ⟨b',o',c,ha,hc,Bn,_⟩:=Bs.cell h i hi
 cases ha
 rw [zY e,Bn,zdn _ i (by omega)]
 rw [ze (by omega)] at hc
 cases hc
 rfl
theorem znl (p:Nat) (w:World) (h2:w.cell? ⟨p,2,none⟩=some (.bool false)):
 Calls Tryz.prog 143 #[.pointer (some ⟨p,0,none⟩)] w fun e w'=> e= .returned (.bool true)∧w=w':=by
 go_enter Tryz.func143,Tryz.ntmps143
 go_wp2_with go_in
 go_ret;exact ⟨rfl,rfl⟩
theorem zpR:(Tryz.prog.info? 25).map (fun i=> (i.zero,i.size,i.bytes))=some (some (.slice none 0 0),1,24):=by kernel_rfl
theorem znz (w:World):∃w',(Instr.makeSlice 25 (.int .i64 128) (.int .i64 128)).run Tryz.prog w= .ok (.slice (some ⟨w.heap.size,0,none⟩) 128 128) w'∧Bs w' (some ⟨w.heap.size,0,none⟩) 128 (List.replicate 128 0)∧At w' w.heap.size 5∧w.grownBy w' none:=by
 obtain ⟨i0,hi,AG,Ai,Ax⟩:=info_parts zi2;obtain ⟨w',hr,ho,hg⟩:=run_make_full (P:=Tryz.prog) (w:=w) w.heap.size 25 5 i0 (.int .u8 0) 1 Tryz.underlying25 hi AG Ai .i64 .i64 128 (by rw [Ax];omega) (by unfold maxLen;omega) zl
 have e:(madeCells (Value.int .u8 0).cells (128 * 1)).toList=zc (List.replicate 128 0):=by kernel_rfl
 rw [e] at ho;have AF:At w' w.heap.size 5:=by
  rcases ho.2 with ⟨h,_⟩ | ⟨g,cap,cur,he,_,hh,_⟩
  ·cases h
  ·cases he
   exact ⟨cur,hh⟩
 obtain ⟨a,c,he,hb,_⟩:=zmV ho
 cases he
 exact ⟨w',hr,hb,AF,hg⟩
end
section
open Go.RowKit
theorem zfn:(Tryz.prog.info? 129).map (fun i=> (i.zero,i.size,i.bytes))=some (some (.agg #[.int .u64 0, .int .u64 0]),2,16):=by kernel_rfl
theorem zkz {w:World} {a:Option Addr} {n c:Nat} {l:List Mk} (h:zM zbZ 2 w a n l) (hn:n≤1000000):
 Calls Tryz.prog 56 #[.slice a n c] w fun r w'=> ∃v',r= .returned v'∧zK zbZ 2 129 w' w.heap.size v' l∧Below w.heap.size w w':=by
 cases a with
 | none=>
   have hl:l= []:=by
    cases l with
    | nil=> rfl
    | cons x l=>
      obtain ⟨b,o,e,-⟩:=h.2 0 x rfl
      cases e
   have Ft:n=0:=by rw [← h.1,hl];rfl
   subst hl Ft;have q22:(binOp .eql 52 (.slice none 0 c) (.slice none 0 0)).run Tryz.prog w= .ok (.bool true) w:=Lib.run_eql_slice_nil w _ _ none 0 c 0 0 Tryz.underlying52;clear h hn;go_enter Tryz.func56,Tryz.ntmps56;go_wp2_with fail;go_ret;exact ⟨_,rfl,World.ownsRow_nil _ _ _ _,Below.refl _ _⟩
 | some x=>
   obtain ⟨v',w',BE,ho⟩:=zgb zR (by decide) zcv Tryz.underlying52 zfn rfl (by decide) c h hn
   have HR:=zh ho;have q22:(binOp .eql 52 (.slice (some x) n c) (.slice none 0 0)).run Tryz.prog w= .ok (.bool false) w:=Lib.run_eql_slice_nil w _ _ _ n c 0 0 Tryz.underlying52;clear h hn ho;go_enter Tryz.func56,Tryz.ntmps56
   go_wp2_with (at_builtin;refine za rfl _ _ _ rfl BE ?_)
   go_ret;exact ⟨v',rfl,HR.out⟩
theorem zhV:(Tryz.prog.info? 144).map (fun i=> (i.zero,i.size,i.bytes))=some (some (.agg #[.int .i64 0, .int .u64 0, .slice none 0 0]),3,40):=by kernel_rfl
theorem zd7 {w:World} {a:Option Addr} {n c:Nat} {l:List Vh} (h:zM zeK 3 w a n l) (hn:n≤1000000):
 Calls Tryz.prog 79 #[.slice a n c] w fun r w'=> ∃v',r= .returned v'∧zK zeK 3 144 w' w.heap.size v' l∧Below w.heap.size w w':=by
 cases a with
 | none=>
   have hl:l= []:=by
    cases l with
    | nil=> rfl
    | cons x l=>
      obtain ⟨b,o,e,-⟩:=h.2 0 x rfl
      cases e
   have Ft:n=0:=by rw [← h.1,hl];rfl
   subst hl Ft;have q22:(binOp .eql 48 (.slice none 0 c) (.slice none 0 0)).run Tryz.prog w= .ok (.bool true) w:=Lib.run_eql_slice_nil w _ _ none 0 c 0 0 Tryz.underlying48;clear h hn;go_enter Tryz.func79,Tryz.ntmps79;go_wp2_with fail;go_ret;exact ⟨_,rfl,World.ownsRow_nil _ _ _ _,Below.refl _ _⟩
 | some x=>
   obtain ⟨v',w',BE,ho⟩:=zgb zai (by decide) zdH Tryz.underlying48 zhV rfl (by decide) c h hn
   have HR:=zh ho;have q22:(binOp .eql 48 (.slice (some x) n c) (.slice none 0 0)).run Tryz.prog w= .ok (.bool false) w:=Lib.run_eql_slice_nil w _ _ _ n c 0 0 Tryz.underlying48;clear h hn ho;go_enter Tryz.func79,Tryz.ntmps79
   go_wp2_with (at_builtin;refine za rfl _ _ _ rfl BE ?_)
   go_ret;exact ⟨v',rfl,HR.out⟩
end
section
open Go.RowKit
theorem zK.pushAt2 {α:Type} {enc:α→List Value} {k:Nat} (hk:∀x,(enc x).length=k) (BX:0 < k) (BA:∀x,∀u ∈ enc x,u.oneCell'=true) {P:Program} {t e:TypeId} {z:Value} {bytes:Nat} (ht:P.underlying t=some (.slice e)) (hi:(P.info? e).map (fun i=> (i.zero,i.size,i.bytes))=some (some z,k,bytes)) (Gk:z.cells.size=k) (FP:bytes≤1000)
 {w:World} {B:Nat} {v:Value} {l:List α} (h:zK enc k e w B v l) (x:α) (hl:l.length≤100000000) (hB:B≤w.heap.size):
 ∃v' w',(Builtin.append_ #[t,t] t #[v, .slice (some ⟨w.heap.size,0,none⟩) 1 1]).run P (w.alloc (.cells (enc x).toArray e))= .ok v' w'∧zK enc k e w' B v' (l++ [x])∧w.grownBy w' v.ownBlock∧(v'.ownBlock=v.ownBlock∨v'.ownBlock=some (w.heap.size+1)):=by
 obtain ⟨i0,hi,AG,Ai,Ax⟩:=zW hi;have PL:(l.length+1) * bytes≤(l.length+1) * 1000:=Nat.mul_le_mul_left _ FP;obtain ⟨v',w',hr,ho,hg,-,AF⟩:=run_append_own_at (P:=P) (w:=w.alloc (.cells (enc x).toArray e)) B t t e i0 z k bytes ht hi AG Ai Ax Gk BX v l.length _ (h.alloc _) ⟨w.heap.size,0,none⟩ 1 1 (zB enc [x]) (by rw [zU enc k hk];rfl) (zM.cells hk BX (zM.new w x e)) (fun u hu=> by
  obtain ⟨y,-,hy⟩:=List.mem_flatMap.1 hu;exact BA y u hy) (by unfold maxLen;omega) (by omega) (by rw [World.alloc_size];omega)
 refine ⟨v',w',hr, ?_,⟨hg.os,hg.tape,hg.output,zs (by simp) hg.size,fun j hj Aj=> ?_⟩,by rw [World.alloc_size] at AF;exact AF⟩
 ·unfold zK;rw [zaj,List.length_append];exact ho
 ·rw [hg.block j (by rw [World.alloc_size];omega) Aj,Below.heap_alloc _ _ _ hj]
section
variable {α β:Type} {enc:α→List Value} {k:Nat} {ens:β→List Value} {ks:Nat} {sa:α→Option Addr} {sl:α→List β}
end
end
section
open Go.RowKit
structure Sh where
 g:Nat
 c:Nat
 d:List UInt8
structure Wh where
 i:Nat
 s:Sh
def ziN (x:Sh):List Value:= [.slice (some ⟨x.g,0,none⟩) 128 x.c]
def zmh (y:Wh):List Value:= [.int .i64 (y.i:Int), .slice (some ⟨y.s.g,0,none⟩) 128 y.s.c]
theorem zfi (x:Sh):(ziN x).length=1:=rfl
theorem zhL (y:Wh):(zmh y).length=2:=rfl
theorem zmi (y:Wh):∀u ∈ zmh y,u.oneCell'=true:=fun u hu=> by
 simp [zmh] at hu;rcases hu with rfl | rfl <;> rfl
structure znB (Q:Nat→Prop) (w:World) (x:Sh):Prop where
 bs:Bs w (some ⟨x.g,0,none⟩) 128 x.d
 cap:128≤x.c
 far:¬Q x.g
theorem znB.lt {Q:Nat→Prop} {w:World} {x:Sh} (h:znB Q w x):x.g < w.heap.size:=by
 obtain ⟨b,o,c,e,-,-,h1⟩:=Bs.cell h.bs 0 (by omega)
 cases e
 exact h1
theorem znB.heap {Q Q':Nat→Prop} {w w':World} {x:Sh} (h:znB Q w x) (e:w'.heap[x.g]? =w.heap[x.g]?) (hq:¬Q' x.g):znB Q' w' x:=⟨Bs.heap h.bs e,h.cap,hq⟩
theorem znB.outs {Q Q':Nat→Prop} {w w':World} {x:Sh} (h:znB Q w x) (ho:zD Q w w') (hQ:∀j,Q' j→Q j∨w.heap.size≤j):znB Q' w' x:=
 h.heap (ho.block x.g h.lt h.far) fun hq=> (hQ _ hq).elim h.far fun h1=> by have:=h.lt;omega
structure zbC (Q:Nat→Prop) (w:World) (p s:Nat) (lv:Value) (xs:List Sh) (ys:List Wh) (armed:Bool) (left:Int) (D:Nat→Prop):Prop where
 box:w.heap[p]? =some (.cells #[.slice (some ⟨s,0,none⟩) xs.length xs.length,lv, .bool armed, .int .i64 left] 108 (0,0))
 row:zbS ziN 1 25 w s xs.length xs
 late:zK zmh 2 237 w 0 lv ys
 sec:∀x ∈ xs,znB Q w x
 dat:∀y ∈ ys,znB Q w y.s
 dom:∀j,D j↔j=p∨j=s∨lv.ownBlock=some j
 ne:s≠p∧lv.ownBlock≠some p∧lv.ownBlock≠some s
section
variable {Q:Nat→Prop} {w:World} {p s:Nat} {lv:Value} {xs:List Sh} {ys:List Wh} {armed:Bool} {left:Int} {D:Nat→Prop}
theorem zbC.lt (h:zbC Q w p s lv xs ys armed left D):∀j,D j→j < w.heap.size:=fun j hj=> by
 rcases (h.dom j).1 hj with rfl | rfl | hj
 ·exact (zg h.box).1
 ·exact h.row.lt
 ·exact (h.late.lt j hj).2
theorem zbC.self (h:zbC Q w p s lv xs ys armed left D):D p:=(h.dom p).2 (.inl rfl)
theorem zbC.outs {Q':Nat→Prop} {w':World} (h:zbC Q w p s lv xs ys armed left D) (hk:∀j,D j→w'.heap[j]? =w.heap[j]?) (ho:zD Q w w') (hQ:∀j,Q' j→Q j∨w.heap.size≤j):zbC Q' w' p s lv xs ys armed left D:=
 ⟨(hk p h.self).trans h.box,h.row.heap (hk s ((h.dom s).2 (.inr (.inl rfl)))),zK.heap h.late fun g hg=> hk g ((h.dom g).2 (.inr (.inr hg))),fun x hx=> (h.sec x hx).outs ho hQ,fun y hy=> (h.dat y hy).outs ho hQ,h.dom,h.ne⟩
theorem zbC.below {w':World} (h:zbC Q w p s lv xs ys armed left D) (hb:Below w.heap.size w w'):zbC Q w' p s lv xs ys armed left D:=
 h.outs (fun j hj=> hb.block j (h.lt j hj)) (zD.of_below hb) fun _ h=> .inl h
theorem zbC.reads (h:zbC Q w p s lv xs ys armed left D):w.cell? ⟨p,0,none⟩=some (.slice (some ⟨s,0,none⟩) xs.length xs.length)∧w.cell? ⟨p,1,none⟩=some lv∧w.cell? ⟨p,2,none⟩=some (.bool armed)∧w.cell? ⟨p,3,none⟩=some (.int .i64 left)∧∀j,w.frozen? ⟨p,j,none⟩=false:=
 ⟨cell_of_row w _ 0 _ _ _ h.box,cell_of_row w _ 1 _ _ _ h.box,cell_of_row w _ 2 _ _ _ h.box,cell_of_row w _ 3 _ _ _ h.box,fun j=> by simp [World.frozen?,h.box]⟩
end
def WrE (Q:Nat→Prop) (w:World) (p s:Nat) (xs:List Sh) (ys:List Wh) (i:Nat) (data:List UInt8) (left:Int) (D:Nat→Prop) (e:Ending) (w':World):Prop:=
 ∃(lv':Value) (y:Sh) (D':Nat→Prop),e= .returned (.int .i64 0)∧y.d=data∧zbC (fun j=> Q j∨D' j) w' p s lv' xs (ys++ [⟨i,y⟩]) false left D'∧zba D w D' w'∧zD D w w'
theorem zpU:(Tryz.prog.info? 237).map (fun i=> (i.zero,i.size,i.bytes))=some (some (.agg #[.int .i64 0, .slice none 0 0]),2,32):=by kernel_rfl
theorem zgO {Q:Nat→Prop} {w:World} {p s:Nat} {lv:Value} {xs:List Sh} {ys:List Wh} {left:Int} {D:Nat→Prop} (h:zbC Q w p s lv xs ys false left D) (Nd:∀j,D j→Q j) (R1:∀j,Q j→j < w.heap.size) {i b o:Nat} (cap:Nat) {data:List UInt8} (hi:i < xs.length) (hl:ys.length≤100000) (hb:Bs w (some ⟨b,o,none⟩) 128 data):
 Calls Tryz.prog 106 #[.pointer (some ⟨p,0,none⟩), .int .i64 (i:Int), .slice (some ⟨b,o,none⟩) 128 cap] w (WrE Q w p s xs ys i data left D):=by
 obtain ⟨c0,c1,c2,c3,cf⟩:=h.reads;have Gg:=znl p w c2;have AN:=zfd b o 128 cap data w.drew (hb.below zr.drew zl) (by omega)
 have AD:(0:Int)≤(i:Int):=by omega
 have Bb:(i:Int) < (xs.length:Int):=by omega
 have c1:w.drew.cell? ⟨p,1,none⟩=some lv:=by simpa using c1
 have HD:=zh (zn h (zn Nd (zn hl R1)));have By:=zh AN;have Rz:=zh Gg;have VR:=zh hb.length;clear h AN Gg hb Nd R1 hl c2 c3 cf hi;go_enter Tryz.func106,Tryz.ntmps106;go_wp2_with fail;refine Rz.out.mono ?_;rintro e w1 ⟨rfl,rfl⟩;go_wp2_with fail
 go_region_law (first
  | (refine zA (o:=⟨some 32,_,_,_,_,_⟩) (by kernel_rfl) 144 Tryz.func144 (by kernel_rfl) rfl _ _ rfl #[.slice (some ⟨b,o,none⟩) 128 cap] (by first | (simp [Act.eval];done) | (simp [Act.eval,Act.put];done)) By.out ?_
     rintro e w2 ⟨v2,rfl,A5,Ae⟩;refine ⟨v2,rfl, ?_⟩;have Am:Below w.heap.size w w2:=zr.drew.trans Ae;rw [VR.out] at A5;obtain ⟨g,c,rfl⟩:=zdp A5 (by omega)
     obtain ⟨_,_,e6,Au,Ba⟩:=zjh A5
     cases e6
     have Ps:w.heap.size≤g:=(World.ownsRow.lt A5 g rfl).1;have Cf:g < w2.heap.size:=(World.ownsRow.lt A5 g rfl).2;have E5:=HD.out.1.below Am;have Ax:=Am.size;obtain ⟨v3,w3,BE,Gc,AM,ND⟩:=zK.pushAt2 zhL (by decide) zmi Tryz.underlying106 zpU rfl (by decide) E5.late (⟨i,⟨g,c,data⟩⟩:Wh) (by have:=HD.out.2.2.1;omega) (Nat.zero_le _)
     have AQ:p < w2.heap.size:=E5.lt p E5.self;have Q0:w3.heap[p]? =w2.heap[p]? :=AM.block p AQ (fun e=> E5.ne.2.1 e.symm);have c12:=E5.reads.2.1;have c13:(w2.alloc (.cells #[.int .i64 (i:Int), .slice (some ⟨g,0,none⟩) 128 c] 237)).cell? ⟨p,1,none⟩=some lv:=by rw [World.cell?_alloc_lt _ _ _ AQ];exact c12
     have c14:w3.cell? ⟨p,1,none⟩=some lv:=by rw [zY Q0];exact c12
     have bW:w3.frozen? ⟨p,1,none⟩=false:=by simp [World.frozen?,Q0.trans E5.box]
     have H3:=zh (zn Am (zn Au (zn Ba (zn Ps (zn Cf (zn E5 (zn Gc (zn AM (zn ND Q0)))))))));obtain ⟨a9,n9,c9,rfl⟩:=Gc.form;unfold zmh at BE;clear A5 Au Ba Ps Cf E5 Gc AM ND AQ Q0 Am Ae Ax)
  | (have hq:=BE
     refine zL (o:=⟨some 35,_,_,_,_,_⟩) rfl _ _ 106 106 rfl _ _ (by first | rfl | (simp [Act.eval,Act.put];done)) (by first | rfl | (simp [Act.eval,Act.put];done)) hq ?_))
 all_goals
  go_wp2_with fail;go_ret;obtain ⟨Am,Au,Ba,Ps,Cf,E5,Gc,AM,ND,Q0⟩:=H3.out;have Ax:=Am.size;have DH:=zq w3 ⟨p,1,none⟩ (.slice a9 n9 c9);have Vw:D p:=E5.self;have hlt:=HD.out.1.lt;have Ah:∀r,lv.ownBlock=some r→D r:=fun r hr=> (E5.dom r).2 (.inr (.inr hr));have aH:zD D w w3:=(zD.of_below Am).trans (zD.of_grown AM fun r hr=> .inl (Ah r hr)) fun _ h=> .inl h;have Vu:zD D w (w3.setCell ⟨p,1,none⟩ (.slice a9 n9 c9)):=aH.trans (zD.turn (D:=D) DH Vw) fun _ h=> .inl h;have B6:∀j,(Value.slice a9 n9 c9).ownBlock=some j→lv.ownBlock=some j∨(j=w2.heap.size+1):=fun j hj=> by
   rcases ND with hk | hk
   ·exact .inl (by rw [← hk];exact hj)
   ·rw [hk] at hj;exact .inr (by simpa using hj.symm)
  have MF:=fun j (hj:lv.ownBlock=some j)=> hlt j (Ah j hj);have AQ:=hlt p Vw;have Fc:=hlt s ((E5.dom s).2 (.inr (.inl rfl)));have jK:∀j,j < w2.heap.size→¬(Q j∨j=p∨j=s∨(Value.slice a9 n9 c9).ownBlock=some j)∨Q j:=fun j hj=> by
   by_cases hq:Q j
   ·exact .inr hq
   ·refine .inl fun hc=> ?_;rcases hc with hc | hc | hc | hc
    ·exact hq hc
    ·exact hq (HD.out.2.1 j (by rw [hc];exact Vw))
    ·exact hq (HD.out.2.1 j ((E5.dom j).2 (.inr (.inl hc))))
    ·rcases B6 j hc with h1 | h1
     ·exact hq (HD.out.2.1 j (Ah j h1))
     ·omega
  unfold WrE;refine ⟨.slice a9 n9 c9,⟨g,c,data⟩,fun j=> j=p∨j=s∨(Value.slice a9 n9 c9).ownBlock=some j,rfl,rfl,⟨?_, ?_, ?_,fun x hx=> ?_,fun y hy=> ?_,fun _=> Iff.rfl, ?_⟩,⟨fun j hj=> ?_,fun j hj=> ?_⟩,Vu⟩
  ·exact heap_setCell_same w3 p 1 _ _ _ (Q0.trans E5.box)
  ·refine E5.row.heap ?_;rw [heap_setCell_other _ _ _ _ E5.ne.1];exact AM.block s (by omega) fun e=> E5.ne.2.2 e.symm
  ·refine zK.heap Gc fun r hr=> ?_;refine heap_setCell_other _ _ _ _ fun e=> ?_;rcases B6 r hr with h1 | h1
   ·exact E5.ne.2.1 (by rw [h1,e])
   ·simp at e;omega
  ·have BB:=HD.out.1.sec x hx;have Dw:=BB.lt;exact BB.heap (Vu.block x.g Dw fun hd=> BB.far (HD.out.2.1 _ hd)) ((jK x.g (by omega)).elim (fun h=> h) fun h=> absurd h BB.far)
  ·rcases List.mem_append.1 hy with hy | hy
   ·have BB:=HD.out.1.dat y hy;have Dw:=BB.lt;exact BB.heap (Vu.block y.s.g Dw fun hd=> BB.far (HD.out.2.1 _ hd)) ((jK y.s.g (by omega)).elim (fun h=> h) fun h=> absurd h BB.far)
   ·simp at hy;subst hy;have Jg:g≠p:=by omega
    have e1:(w3.setCell ⟨p,1,none⟩ (.slice a9 n9 c9)).heap[g]? =w2.heap[g]? :=(heap_setCell_other _ _ _ _ Jg).trans (AM.block g Cf fun e=> by have:=MF g e.symm;omega)
    refine ⟨Bs.heap Au e1,Ba,fun hq=> ?_⟩;rcases hq with hq | hq | hq | hq
    ·have h9:=HD.out.2.2.2 g hq;omega
    ·simp only at hq;omega
    ·simp only at hq;omega
    ·simp only at hq;rcases B6 g hq with h1 | h1
     ·have:=MF g h1;omega
     ·omega
  ·refine ⟨E5.ne.1,fun e=> ?_,fun e=> ?_⟩
   ·rcases B6 p e with h1 | h1
    ·exact E5.ne.2.1 h1
    ·omega
   ·rcases B6 s e with h1 | h1
    ·exact E5.ne.2.2 h1
    ·omega
  ·rcases hj with rfl | rfl | hj
   ·exact .inl Vw
   ·exact .inl ((E5.dom j).2 (.inr (.inl rfl)))
   ·rcases B6 j hj with h1 | h1
    ·exact .inl (Ah j h1)
    ·exact .inr (by omega)
  ·have Ob:=Vu.size;rcases hj with rfl | rfl | hj
   ·omega
   ·omega
   ·have:=(Gc.lt j hj).2;have:=DH.size
    omega
end
end Go.Proofs.YtfldlfladcfggaaGreat
