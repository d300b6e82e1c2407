/- Lemmas of the walks, merged and pressed by press.py. Conditions: those of each theorem. -/
import Derived.Test.YtaoceecfjlkmdaaGreatM20
import Derived.Maps.AppendAt
import Derived.Deep.RegionLaw
set_option maxRecDepth 100000
set_option maxHeartbeats 64000000
set_option linter.all false
namespace Go.Proofs.YtaoceecfjlkmdaaGreat
open Tryz
variable {data:List UInt8} {B b c i n p s:Nat} {D Q Q':Nat→Prop} {a:Option Addr} {T:TypeId} {lv v:Value} {w w':World}
section
open Go.RowKit
theorem zfo:(prog.info? 22).map (fun i=> (i.zero,i.size,i.bytes))=some (some (υ 0),1,8):=ue
theorem zd6 {l:List Nat} (h:zM zb0 1 w a n l) (hn:n<=1000000):
 χ 73 #[σ a n c] w fun r w'=> ∃v',r=ρ v'/\zK zb0 1 22 w' ↑w v' l/\θ w w w':=by
 cases a with
 | none=>
   have hl:l= []:=by
    cases l with
    | nil=> rfl
    | cons x l=>
      obtain ⟨b,o,e,-⟩:=h.2 0 x rfl
      cases e
   have Ft:n=0:=by rw [<- h.1,hl];rfl
   subst hl Ft;have q22:(binOp .eql 51 (σ none 0 c) (σ none 0 0)).run prog w= .ok (.bool true) w:=Lib.run_eql_slice_nil w _ _ none 0 c 0 0 Tryz.underlying51;go_in;go_wp2;go_ret;exact ⟨_,rfl,World.ownsRow_nil _ _ _ _,Below.refl _ _⟩
 | some x=>
   obtain ⟨v',w',BE,ho⟩:=zgb zah uf zdG Tryz.underlying51 zfo rfl uf c h hn;have HR:=zh ho;have q22:(binOp .eql 51 (σ (some x) n c) (σ none 0 0)).run prog w= .ok (.bool false) w:=Lib.run_eql_slice_nil w _ _ _ n c 0 0 Tryz.underlying51;go_in
   go_wp2_with (at_builtin;refine za rfl _ _ _ rfl BE ?_)
   go_ret;exact ⟨v',rfl,HR.out⟩
theorem zoK:(prog.info? 3).map (fun i=> (i.zero,i.size,i.bytes))=some (some (ι 0),1,8):=ue
theorem zd5 {l:List Int} (h:zM zcm 1 w a n l) (hn:n<=1000000):
 χ 94 #[σ a n c] w fun r w'=> ∃v',r=ρ v'/\zK zcm 1 3 w' ↑w v' l/\θ w w w':=by
 cases a with
 | none=>
   have hl:l= []:=by
    cases l with
    | nil=> rfl
    | cons x l=>
      obtain ⟨b,o,e,-⟩:=h.2 0 x rfl
      cases e
   have Ft:n=0:=by rw [<- h.1,hl];rfl
   subst hl Ft;have q22:(binOp .eql 38 (σ none 0 c) (σ none 0 0)).run prog w= .ok (.bool true) w:=Lib.run_eql_slice_nil w _ _ none 0 c 0 0 Tryz.underlying38;go_in;go_wp2;go_ret;exact ⟨_,rfl,World.ownsRow_nil _ _ _ _,Below.refl _ _⟩
 | some x=>
   obtain ⟨v',w',BE,ho⟩:=zgb zT uf zjQ Tryz.underlying38 zoK rfl uf c h hn;have HR:=zh ho;have q22:(binOp .eql 38 (σ (some x) n c) (σ none 0 0)).run prog w= .ok (.bool false) w:=Lib.run_eql_slice_nil w _ _ _ n c 0 0 Tryz.underlying38;go_in
   go_wp2_with (at_builtin;refine za rfl _ _ _ rfl BE ?_)
   go_ret;exact ⟨v',rfl,HR.out⟩
theorem zfn:(prog.info? 129).map (fun i=> (i.zero,i.size,i.bytes))=some (some (.agg #[υ 0,υ 0]),2,16):=ue
theorem zkz {l:List Mk} (h:zM zbZ 2 w a n l) (hn:n<=1000000):
 χ 63 #[σ a n c] w fun r w'=> ∃v',r=ρ v'/\zK zbZ 2 129 w' ↑w v' l/\θ w w w':=by
 cases a with
 | none=>
   have hl:l= []:=by
    cases l with
    | nil=> rfl
    | cons x l=>
      obtain ⟨b,o,e,-⟩:=h.2 0 x rfl
      cases e
   have Ft:n=0:=by rw [<- h.1,hl];rfl
   subst hl Ft;have q22:(binOp .eql 52 (σ none 0 c) (σ none 0 0)).run prog w= .ok (.bool true) w:=Lib.run_eql_slice_nil w _ _ none 0 c 0 0 Tryz.underlying52;go_in;go_wp2;go_ret;exact ⟨_,rfl,World.ownsRow_nil _ _ _ _,Below.refl _ _⟩
 | some x=>
   obtain ⟨v',w',BE,ho⟩:=zgb zR uf zcv Tryz.underlying52 zfn rfl uf c h hn;have HR:=zh ho;have q22:(binOp .eql 52 (σ (some x) n c) (σ none 0 0)).run prog w= .ok (.bool false) w:=Lib.run_eql_slice_nil w _ _ _ n c 0 0 Tryz.underlying52;go_in
   go_wp2_with (at_builtin;refine za rfl _ _ _ rfl BE ?_)
   go_ret;exact ⟨v',rfl,HR.out⟩
theorem zhV:(prog.info? 86).map (fun i=> (i.zero,i.size,i.bytes))=some (some (.agg #[ι 0,υ 0,σ none 0 0]),3,40):=ue
theorem zd7 {l:List Vh} (h:zM zeK 3 w a n l) (hn:n<=1000000):
 χ 88 #[σ a n c] w fun r w'=> ∃v',r=ρ v'/\zK zeK 3 86 w' ↑w v' l/\θ w w w':=by
 cases a with
 | none=>
   have hl:l= []:=by
    cases l with
    | nil=> rfl
    | cons x l=>
      obtain ⟨b,o,e,-⟩:=h.2 0 x rfl
      cases e
   have Ft:n=0:=by rw [<- h.1,hl];rfl
   subst hl Ft;have q22:(binOp .eql 48 (σ none 0 c) (σ none 0 0)).run prog w= .ok (.bool true) w:=Lib.run_eql_slice_nil w _ _ none 0 c 0 0 Tryz.underlying48;go_in;go_wp2;go_ret;exact ⟨_,rfl,World.ownsRow_nil _ _ _ _,Below.refl _ _⟩
 | some x=>
   obtain ⟨v',w',BE,ho⟩:=zgb zai uf zdH Tryz.underlying48 zhV rfl uf c h hn;have HR:=zh ho;have q22:(binOp .eql 48 (σ (some x) n c) (σ none 0 0)).run prog w= .ok (.bool false) w:=Lib.run_eql_slice_nil w _ _ _ n c 0 0 Tryz.underlying48;go_in
   go_wp2_with (at_builtin;refine za rfl _ _ _ rfl BE ?_)
   go_ret;exact ⟨v',rfl,HR.out⟩
theorem zj0:(prog.info? 180).map (fun i=> (i.zero,i.size,i.bytes))=some (some (.agg #[ι 0,σ none 0 0]),2,32):=ue
theorem zgc {l:List Gh} (h:zM zgQ 2 w a n l) (hn:n<=1000000):
 χ 93 #[σ a n c] w fun r w'=> ∃v',r=ρ v'/\zK zgQ 2 180 w' ↑w v' l/\θ w w w':=by
 cases a with
 | none=>
   have hl:l= []:=by
    cases l with
    | nil=> rfl
    | cons x l=>
      obtain ⟨b,o,e,-⟩:=h.2 0 x rfl
      cases e
   have Ft:n=0:=by rw [<- h.1,hl];rfl
   subst hl Ft;have q22:(binOp .eql 49 (σ none 0 c) (σ none 0 0)).run prog w= .ok (.bool true) w:=Lib.run_eql_slice_nil w _ _ none 0 c 0 0 Tryz.underlying49;go_in;go_wp2;go_ret;exact ⟨_,rfl,World.ownsRow_nil _ _ _ _,Below.refl _ _⟩
 | some x=>
   obtain ⟨v',w',BE,ho⟩:=zgb zaH uf zeS Tryz.underlying49 zj0 rfl uf c h hn;have HR:=zh ho;have q22:(binOp .eql 49 (σ (some x) n c) (σ none 0 0)).run prog w= .ok (.bool false) w:=Lib.run_eql_slice_nil w _ _ _ n c 0 0 Tryz.underlying49;go_in
   go_wp2_with (at_builtin;refine za rfl _ _ _ rfl BE ?_)
   go_ret;exact ⟨v',rfl,HR.out⟩
theorem zjZ:(prog.info? 132).map (fun i=> (i.zero,i.size,i.bytes))=some (some (.agg #[ι 0,υ 0,σ none 0 0]),3,40):=ue
theorem zga {l:List Bh} (h:zM zgP 3 w a n l) (hn:n<=1000000):
 χ 97 #[σ a n c] w fun r w'=> ∃v',r=ρ v'/\zK zgP 3 132 w' ↑w v' l/\θ w w w':=by
 cases a with
 | none=>
   have hl:l= []:=by
    cases l with
    | nil=> rfl
    | cons x l=>
      obtain ⟨b,o,e,-⟩:=h.2 0 x rfl
      cases e
   have Ft:n=0:=by rw [<- h.1,hl];rfl
   subst hl Ft;have q22:(binOp .eql 50 (σ none 0 c) (σ none 0 0)).run prog w= .ok (.bool true) w:=Lib.run_eql_slice_nil w _ _ none 0 c 0 0 Tryz.underlying50;go_in;go_wp2;go_ret;exact ⟨_,rfl,World.ownsRow_nil _ _ _ _,Below.refl _ _⟩
 | some x=>
   obtain ⟨v',w',BE,ho⟩:=zgb zaG uf zeR Tryz.underlying50 zjZ rfl uf c h hn;have HR:=zh ho;have q22:(binOp .eql 50 (σ (some x) n c) (σ none 0 0)).run prog w= .ok (.bool false) w:=Lib.run_eql_slice_nil w _ _ _ n c 0 0 Tryz.underlying50;go_in
   go_wp2_with (at_builtin;refine za rfl _ _ _ rfl BE ?_)
   go_ret;exact ⟨v',rfl,HR.out⟩
end
section
open Go.RowKit
theorem zK.pushAt2 {α:Type} {enc:α->List Value} {k:Nat} (hk:∀x,(enc x).length=k) (BX:0 < k) (BA:∀x,∀u ∈ enc x,u.oneCell'=true) {P:Program} {t e:TypeId} {z:Value} {bytes:Nat} (ht:P.underlying t=some (.slice e)) (hi:(P.info? e).map (fun i=> (i.zero,i.size,i.bytes))=some (some z,k,bytes)) (Gk:z.cells.size=k) (FP:bytes<=1000)
 {w:World} {B:Nat} {v:Value} {l:List α} (h:zK enc k e w B v l) (x:α) (hl:l.length<=100000000) (hB:B<=w.heap.size):
 ∃v' w',(Builtin.append_ #[t,t] t #[v, .slice (some ⟨w.heap.size,0,none⟩) 1 1]).run P (w.alloc (.cells (enc x).toArray e))= .ok v' w'/\zK enc k e w' B v' (l++ [x])/\w.grownBy w' v.ownBlock/\(v'.ownBlock=v.ownBlock\/v'.ownBlock=some (w.heap.size+1)):=by
 obtain ⟨i0,hi,AG,Ai,Ax⟩:=zW hi;have PL:(l.length+1) * bytes<=(l.length+1) * 1000:=Nat.mul_le_mul_left _ FP;obtain ⟨v',w',hr,ho,hg,-,AF⟩:=run_append_own_at (P:=P) (w:=w.alloc (.cells (enc x).toArray e)) B t t e i0 z k bytes ht hi AG Ai Ax Gk BX v l.length _ (h.alloc _) ⟨w.heap.size,0,none⟩ 1 1 (zB enc [x]) (by rw [zU enc k hk];rfl) (zM.cells hk BX (zM.new w x e)) (fun u hu=> by
  obtain ⟨y,-,hy⟩:=List.mem_flatMap.1 hu;exact BA y u hy) (by unfold maxLen;omega) (by omega) (by rw [World.alloc_size];omega)
 refine ⟨v',w',hr, ?_,⟨hg.os,hg.tape,hg.output,zs (by simp) hg.size,fun j hj Aj=> ?_⟩,by rw [World.alloc_size] at AF;exact AF⟩
 ·unfold zK;rw [zaj,List.length_append];exact ho
 rw [hg.block j (by rw [World.alloc_size];omega) Aj,Below.heap_alloc _ _ _ hj]
section
variable {α β:Type} {enc:α→List Value} {k:Nat} {ens:β→List Value} {ks:Nat} {sa:α→Option Addr} {sl:α→List β}
structure zfK (enc:α->List Value) (k:Nat) (ens:β->List Value) (ks:Nat) (sa:α->Option Addr) (sl:α->List β) (T:TypeId) (B:Nat) (w:World) (v:Value) (l:List α):Prop where
 row:zK enc k T w B v l
 sub:∀x ∈ l,zaM (fun j=> j < B\/v.ownBlock=some j) ens ks w (sa x) (sl x)
theorem zfK.below (EE:∀x,(ens x).length=ks) (PD:0 < ks)     {l:List α} (h:zfK enc k ens ks sa sl T B w v l) (hb:θ w w w'):zfK enc k ens ks sa sl T B w' v l:=
 ⟨h.row.below hb zl,fun x hx=> (h.sub x hx).outs EE PD (zD.of_below hb) fun _ h=> .inl h⟩
theorem zfK.push (hk:∀x,(enc x).length=k) (BX:0 < k) (BA:∀x,∀u ∈ enc x,u.oneCell'=true) (EE:∀x,(ens x).length=ks) (PD:0 < ks) {P:Program} {t e:TypeId} {z:Value} {bytes:Nat} (ht:P.underlying t=some (.slice e)) (hi:(P.info? e).map (fun i=> (i.zero,i.size,i.bytes))=some (some z,k,bytes)) (Gk:z.cells.size=k) (FP:bytes<=1000)
 {w:World} {B:Nat} {v:Value} {l:List α} (h:zfK enc k ens ks sa sl e B w v l) (x:α) (hx:zaM (fun j=> j < B\/v.ownBlock=some j) ens ks w (sa x) (sl x)) (hl:l.length<=100000000) (hB:B<=w.heap.size):
 ∃v' w',(Builtin.append_ #[t,t] t #[v, .slice (some ⟨w.heap.size,0,none⟩) 1 1]).run P (w.alloc (.cells (enc x).toArray e))= .ok v' w'/\zfK enc k ens ks sa sl e B w' v' (l++ [x])/\w.grownBy w' v.ownBlock:=by
 obtain ⟨v',w',hr,ho,hg,AF⟩:=h.row.pushAt2 hk BX BA ht hi Gk FP x hl hB;refine ⟨v',w',hr,⟨ho,fun y hy=> ?_⟩,hg⟩;have N9:zaM (fun j=> j < B\/v.ownBlock=some j) ens ks w (sa y) (sl y):=by
  rcases List.mem_append.1 hy with hy | hy
  ·exact h.sub y hy
  simp only [List.mem_singleton] at hy;subst hy;exact hx
 refine N9.outs EE PD (zD.of_grown hg (fun r hr=> .inl (.inr hr))) fun j hj=> ?_;rcases hj with hj | hj
 ·exact .inl (.inl hj)
 rcases AF with e | e
 ·exact .inl (.inr (e ▸ hj))
 rw [e] at hj
 cases hj
 exact .inr (by omega)
end
end
section
open Go.RowKit
structure Sh where
 g:Nat
 c:Nat
 d:List UInt8
structure Wh where
 i:Nat
 s:Sh
def ziN (x:Sh):List Value:= [σ (some ⟨x.g,0,none⟩) 128 x.c]
def zmh (y:Wh):List Value:= [↑y.i,σ (some ⟨y.s.g,0,none⟩) 128 y.s.c]
theorem zfi (x:Sh):(ziN x).length=1:=rfl
theorem zhL (y:Wh):(zmh y).length=2:=rfl
theorem zmi (y:Wh):∀u ∈ zmh y,u.oneCell'=true:=fun u hu=> by
 simp [zmh] at hu;rcases hu with rfl | rfl <;> rfl
structure znB (Q:Nat->Prop) (w:World) (x:Sh):Prop where
 bs:Bs w (some ⟨x.g,0,none⟩) 128 x.d
 cap:128<=x.c
 far:¬Q x.g
theorem znB.lt {x:Sh} (h:znB Q w x):x.g < ↑w:=by
 obtain ⟨b,o,c,e,-,-,h1⟩:=Bs.cell h.bs 0 ud
 cases e
 exact h1
theorem znB.heap {x:Sh} (h:znB Q w x) (e:w'.heap[x.g]? =w.heap[x.g]?) (hq:¬Q' x.g):znB Q' w' x:=⟨Bs.heap h.bs e,h.cap,hq⟩
theorem znB.outs {x:Sh} (h:znB Q w x) (ho:zD Q w w') (hQ:∀j,Q' j->Q j\/↑w<=j):znB Q' w' x:=
 h.heap (ho.block x.g h.lt h.far) fun hq=> (hQ _ hq).elim h.far fun h1=> by have:=h.lt;omega
structure zbC (Q:Nat->Prop) (w:World) (p s:Nat) (lv:Value) (xs:List Sh) (ys:List Wh) (armed:Bool) (left:Int) (D:Nat->Prop):Prop where
 box:w.heap[p]? =some (.cells #[σ (some ↑s) xs.length xs.length,lv, .bool armed,↑left] 147)
 row:zbS ziN 1 33 w s xs.length xs
 late:zK zmh 2 219 w 0 lv ys
 sec:∀x ∈ xs,znB Q w x
 dat:∀y ∈ ys,znB Q w y.s
 dom:∀j,D j↔j=p\/j=s\/lv.ownBlock=some j
 ne:s≠p/\lv.ownBlock≠some p/\lv.ownBlock≠some s
section
variable {Q:Nat→Prop} {w:World} {p s:Nat} {lv:Value} {xs:List Sh} {ys:List Wh} {armed:Bool} {left:Int} {D:Nat→Prop}
theorem zbC.lt (h:zbC Q w p s lv xs ys armed left D):∀j,D j->j < ↑w:=fun j hj=> by
 rcases (h.dom j).1 hj with rfl | rfl | hj
 ·exact (zg h.box).1
 ·exact h.row.lt
 exact (h.late.lt j hj).2
theorem zbC.self (h:zbC Q w p s lv xs ys armed left D):D p:=(h.dom p).2 (.inl rfl)
theorem zbC.outs (h:zbC Q w p s lv xs ys armed left D) (hk:∀j,D j->w'.heap[j]? =w.heap[j]?) (ho:zD Q w w') (hQ:∀j,Q' j->Q j\/↑w<=j):zbC Q' w' p s lv xs ys armed left D:=
 ⟨(hk p h.self).trans h.box,h.row.heap (hk s ((h.dom s).2 (.inr (.inl rfl)))),zK.heap h.late fun g hg=> hk g ((h.dom g).2 (.inr (.inr hg))),fun x hx=> (h.sec x hx).outs ho hQ,fun y hy=> (h.dat y hy).outs ho hQ,h.dom,h.ne⟩
theorem zbC.below (h:zbC Q w p s lv xs ys armed left D) (hb:θ w w w'):zbC Q w' p s lv xs ys armed left D:=
 h.outs (fun j hj=> hb.block j (h.lt j hj)) (zD.of_below hb) fun _ h=> .inl h
theorem zbC.reads (h:zbC Q w p s lv xs ys armed left D):w p=some (σ (some ↑s) xs.length xs.length)/\w (p 1 ())=some lv/\w (p 2 ())=some (.bool armed)/\w (p 3 ())=some (ι left)/\∀j,w.frozen? (p j ())=false:=
 ⟨cell_of_row w _ 0 _ _ _ h.box,cell_of_row w _ 1 _ _ _ h.box,cell_of_row w _ 2 _ _ _ h.box,cell_of_row w _ 3 _ _ _ h.box,fun j=> by simp [World.frozen?,h.box]⟩
end
def WrE (Q:Nat->Prop) (w:World) (p s:Nat) (xs:List Sh) (ys:List Wh) (i:Nat) (data:List UInt8) (left:Int) (D:Nat->Prop) (e:Ending) (w':World):Prop:=
 ∃(lv':Value) (y:Sh) (D':Nat->Prop),e=ρ (ι 0)/\y.d=data/\zbC (fun j=> Q j\/D' j) w' p s lv' xs (ys++ [⟨i,y⟩]) false left D'/\zba D w D' w'/\zD D w w'
theorem zpU:(prog.info? 219).map (fun i=> (i.zero,i.size,i.bytes))=some (some (.agg #[ι 0,σ none 0 0]),2,32):=ue
theorem zgO {xs:List Sh} {ys:List Wh} {left:Int}  (h:zbC Q w p s lv xs ys false left D) (Nd:∀j,D j->Q j) (R1:∀j,Q j->j < w.heap.size) {o:Nat} (cap:Nat)  (hi:i < xs.length) (hl:ys.length<=100000) (hb:Bs w (some ⟨b,o,none⟩) 128 data):
 χ 113 #[π (some ⟨p,0,none⟩),ι i,σ (some ⟨b,o,none⟩) 128 cap] w (WrE Q w p s xs ys i data left D):=by
 obtain ⟨c0,c1,c2,c3,cf⟩:=h.reads;have Gg:=znl p w c2;have AN:=zfd b o 128 cap data w.drew (hb.below zr.drew zl) (by omega)
 have AD:(0:Int)<=(i:Int):=by omega
 have Bb:(i:Int) < (xs.length:Int):=by omega
 have c1:w.drew.cell? ⟨p,1,none⟩=some lv:=by simpa using c1
 have HD:=zh (zn h (zn Nd (zn hl R1)));have By:=zh AN;have Rz:=zh Gg;have VR:=zh hb.length;clear h AN Gg hb Nd R1 hl c2 c3 cf hi;go_enter func113,ntmps113;go_wp2_with fail;refine Rz.out.mono ?_;rintro e w1 ⟨rfl,rfl⟩;go_wp2_with fail
 go_region_law (first
  | (refine zA (o:=⟨some 32,_,_,_,_,_⟩) (by kernel_rfl) 126 func126 (by kernel_rfl) rfl _ _ rfl #[σ (some ⟨b,o,none⟩) 128 cap] (by first | (simp [Act.eval];done) | (simp [Act.eval,Act.put];done)) By.out ?_
     rintro e w2 ⟨v2,rfl,A5,Ae⟩;refine ⟨v2,rfl, ?_⟩;have Am:θ w.heap.size w w2:=zr.drew.trans Ae;rw [VR.out] at A5;obtain ⟨g,c,rfl⟩:=zdp A5 (by omega)
     obtain ⟨_,_,e6,Au,Ba⟩:=zjh A5
     cases e6
     have Ps:w.heap.size<=g:=(World.ownsRow.lt A5 g rfl).1;have Cf:g < w2.heap.size:=(World.ownsRow.lt A5 g rfl).2;have E5:=HD.out.1.below Am;have Ax:=Am.size;obtain ⟨v3,w3,BE,Gc,AM,ND⟩:=zK.pushAt2 zhL (by decide) zmi Tryz.underlying145 zpU rfl (by decide) E5.late (⟨i,⟨g,c,data⟩⟩:Wh) (by have:=HD.out.2.2.1;omega) (Nat.zero_le _)
     have AQ:p < w2.heap.size:=E5.lt p E5.self;have Q0:w3.heap[p]? =w2.heap[p]? :=AM.block p AQ (fun e=> E5.ne.2.1 e.symm);have c12:=E5.reads.2.1;have c13:(w2.alloc (.cells #[ι i,σ (some ⟨g,0,none⟩) 128 c] 219)).cell? ⟨p,1,none⟩=some lv:=by rw [World.cell?_alloc_lt _ _ _ AQ];exact c12
     have c14:w3.cell? ⟨p,1,none⟩=some lv:=by rw [zY Q0];exact c12
     have bW:w3.frozen? ⟨p,1,none⟩=false:=by simp [World.frozen?,Q0.trans E5.box]
     have H3:=zh (zn Am (zn Au (zn Ba (zn Ps (zn Cf (zn E5 (zn Gc (zn AM (zn ND Q0)))))))));obtain ⟨a9,n9,c9,rfl⟩:=Gc.form;unfold zmh at BE;clear A5 Au Ba Ps Cf E5 Gc AM ND AQ Q0 Am Ae Ax)
  | (have hq:=BE
     refine zL (o:=⟨some 35,_,_,_,_,_⟩) rfl _ _ 145 145 rfl _ _ (by first | rfl | (simp [Act.eval,Act.put];done)) (by first | rfl | (simp [Act.eval,Act.put];done)) hq ?_))
 all_goals
  go_wp2_with fail;go_ret;obtain ⟨Am,Au,Ba,Ps,Cf,E5,Gc,AM,ND,Q0⟩:=H3.out;have Ax:=Am.size;have DH:=zq w3 ⟨p,1,none⟩ (σ a9 n9 c9);have Vw:D p:=E5.self;have hlt:=HD.out.1.lt;have Ah:∀r,lv.ownBlock=some r->D r:=fun r hr=> (E5.dom r).2 (.inr (.inr hr));have aH:zD D w w3:=(zD.of_below Am).trans (zD.of_grown AM fun r hr=> .inl (Ah r hr)) fun _ h=> .inl h;have Vu:zD D w (w3.setCell ⟨p,1,none⟩ (σ a9 n9 c9)):=aH.trans (zD.turn (D:=D) DH Vw) fun _ h=> .inl h;have B6:∀j,(Value.slice a9 n9 c9).ownBlock=some j->lv.ownBlock=some j\/(j=w2.heap.size+1):=fun j hj=> by
   rcases ND with hk | hk
   ·exact .inl (by rw [<- hk];exact hj)
   rw [hk] at hj;exact .inr (by simpa using hj.symm)
  have MF:=fun j (hj:lv.ownBlock=some j)=> hlt j (Ah j hj);have AQ:=hlt p Vw;have Fc:=hlt s ((E5.dom s).2 (.inr (.inl rfl)));have jK:∀j,j < w2.heap.size->¬(Q j\/j=p\/j=s\/(Value.slice a9 n9 c9).ownBlock=some j)\/Q j:=fun j hj=> by
   by_cases hq:Q j
   ·exact .inr hq
   refine .inl fun hc=> ?_;rcases hc with hc | hc | hc | hc
   ·exact hq hc
   ·exact hq (HD.out.2.1 j (by rw [hc];exact Vw))
   ·exact hq (HD.out.2.1 j ((E5.dom j).2 (.inr (.inl hc))))
   rcases B6 j hc with h1 | h1
   ·exact hq (HD.out.2.1 j (Ah j h1))
   omega
  unfold WrE;refine ⟨σ a9 n9 c9,⟨g,c,data⟩,fun j=> j=p\/j=s\/(Value.slice a9 n9 c9).ownBlock=some j,rfl,rfl,⟨?_, ?_, ?_,fun x hx=> ?_,fun y hy=> ?_,fun _=> Iff.rfl, ?_⟩,⟨fun j hj=> ?_,fun j hj=> ?_⟩,Vu⟩
  ·exact heap_setCell_same w3 p 1 _ _ _ (Q0.trans E5.box)
  ·refine E5.row.heap ?_;rw [heap_setCell_other _ _ _ _ E5.ne.1];exact AM.block s (by omega) fun e=> E5.ne.2.2 e.symm
  ·refine zK.heap Gc fun r hr=> ?_;refine heap_setCell_other _ _ _ _ fun e=> ?_;rcases B6 r hr with h1 | h1
   ·exact E5.ne.2.1 (by rw [h1,e])
   simp at e;omega
  ·have BB:=HD.out.1.sec x hx;have Dw:=BB.lt;exact BB.heap (Vu.block x.g Dw fun hd=> BB.far (HD.out.2.1 _ hd)) ((jK x.g (by omega)).elim (fun h=> h) fun h=> absurd h BB.far)
  ·rcases List.mem_append.1 hy with hy | hy
   ·have BB:=HD.out.1.dat y hy;have Dw:=BB.lt;exact BB.heap (Vu.block y.s.g Dw fun hd=> BB.far (HD.out.2.1 _ hd)) ((jK y.s.g (by omega)).elim (fun h=> h) fun h=> absurd h BB.far)
   simp at hy;subst hy;have Jg:g≠p:=by omega
   have e1:(w3.setCell ⟨p,1,none⟩ (σ a9 n9 c9)).heap[g]? =w2.heap[g]? :=(heap_setCell_other _ _ _ _ Jg).trans (AM.block g Cf fun e=> by have:=MF g e.symm;omega)
   refine ⟨Bs.heap Au e1,Ba,fun hq=> ?_⟩;rcases hq with hq | hq | hq | hq
   ·have h9:=HD.out.2.2.2 g hq;omega
   ·simp only at hq;omega
   ·simp only at hq;omega
   simp only at hq;rcases B6 g hq with h1 | h1
   ·have:=MF g h1;omega
   omega
  ·refine ⟨E5.ne.1,fun e=> ?_,fun e=> ?_⟩
   ·rcases B6 p e with h1 | h1
    ·exact E5.ne.2.1 h1
    omega
   rcases B6 s e with h1 | h1
   ·exact E5.ne.2.2 h1
   omega
  ·rcases hj with rfl | rfl | hj
   ·exact .inl Vw
   ·exact .inl ((E5.dom j).2 (.inr (.inl rfl)))
   rcases B6 j hj with h1 | h1
   ·exact .inl (Ah j h1)
   exact .inr (by omega)
  have Ob:=Vu.size;rcases hj with rfl | rfl | hj
  ·omega
  ·omega
  have:=(Gc.lt j hj).2;have:=DH.size
  omega
end
end Go.Proofs.YtaoceecfjlkmdaaGreat
