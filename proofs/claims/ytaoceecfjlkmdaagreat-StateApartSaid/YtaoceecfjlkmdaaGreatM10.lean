/- Lemmas of the walks, merged and pressed by press.py. Conditions: those of each theorem. -/
import Derived.Test.YtaoceecfjlkmdaaGreatM9
import Derived.OwnWalk
set_option maxRecDepth 100000
set_option maxHeartbeats 64000000
set_option linter.all false
namespace Go.Proofs.YtaoceecfjlkmdaaGreat
open Tryz
variable {K:Act→World→Prop} {es l:List En} {ks ps:List Nat} {B B' C b c cap d g k n p p':Nat} {S S':Nat→Prop} {a:Option Addr} {e t:TypeId} {cv cv' kv kv' v:Value} {W w w' w0:World}
section
open Go.RowKit
theorem zjY {α β:Type} (l:List α) (f:α->β) (d:β) (h:0 < l.length):(l.map f)[0]? =some ((l.head?.map f).getD d):=by
 cases l with
 | nil=> simp at h
 | cons x l=> rfl
theorem zkT:{d:Nat}->(t:Tr d)->0 < zH t->(zC t)[0]? =some (zad t)
 | 0,t,h=> zjY (zS t) (·.1) 0 h
 | _+1,t,h=> zjY (zx t) zad 0 h
structure zaQ (B p:Nat) (P0:Obj) (w0:World) (kv:Value) (ks:List Nat) (cv:Value) (ps:List Nat) (W:World):Prop where
 k:zK zhn 3 111 W (p+1) kv ks
 c:zK zcV 1 157 W B cv ps
 cp:∀g,cv.ownBlock=some g->g < p
 hp:W.heap[p]? =some P0
 Bp:B<=p
 below:θ B w0 W
section
variable {B p:Nat} {P0:Obj} {w0:World} {kv cv:Value} {ks ps:List Nat} {W:World}
theorem zaQ.lt (m:zaQ B p P0 w0 kv ks cv ps W):p < ↑W:=(zg m.hp).1
theorem zaQ.alloc (m:zaQ B p P0 w0 kv ks cv ps W) (o:Obj):zaQ B p P0 w0 kv ks cv ps (W.alloc o):=
 ⟨m.k.alloc o,m.c.alloc o,m.cp,by rw [Below.heap_alloc _ _ _ m.lt];exact m.hp,m.Bp,m.below.alloc (by have:=m.lt;have:=m.Bp;omega) o⟩
theorem zaQ.drew (m:zaQ B p P0 w0 kv ks cv ps W):zaQ B p P0 w0 kv ks cv ps W.drew:=⟨m.k,m.c,m.cp,m.hp,m.Bp,m.below.drew⟩
theorem zaQ.app (m:zaQ B p P0 w0 kv ks cv ps W)  (hs:zM zhn 3 W (some ↑b) 1 [k]) (hl:ks.length<=100000000):
 ∃v' w',(∀ty,(Builtin.append_ #[224,224] ty #[kv,σ (some ↑b) 1 1]).run prog W= .ok v' w')/\zaQ B p P0 w0 v' (ks++ [k]) cv ps w'/\W.grownBy w' kv.ownBlock:=by
 obtain ⟨i0,hi,AG,Ai,Ax⟩:=zW zmA;have hlt:=m.lt;have UQ:=m.Bp;have Du:=m.k.lt;obtain ⟨v',w',hr,ho,hg,-,AF⟩:=run_append_own_at (P:=prog) W (p+1) 224 224 111 i0 _ 3 16 Tryz.underlying224 hi AG Ai Ax rfl uf kv ks.length _ m.k ↑b 1 1 (zB zhn [k]) rfl (zM.cells zeT uf hs) (fun u hu=> by
  obtain ⟨x,-,hx⟩:=List.mem_flatMap.1 hu;exact zjR x u hx) ur ud ud
 refine ⟨v',w',fun ty=> hr,⟨?_,m.c.kept hg ?_,m.cp, ?_,m.Bp,m.below.grown hg ud (fun j hj=> by have:=(Du j hj).1;omega)⟩,hg⟩
 ·unfold zK;rw [zaj,List.length_append];exact ho
 ·cases K9:cv.ownBlock with
  | none=> exact .inl rfl
  | some g=> exact .inr fun e=> by have:=m.cp g K9;have:=(Du g e.symm).1;omega
 rw [hg.block p hlt (fun e=> by have:=(Du p e.symm).1;omega)];exact m.hp
theorem znm {ops:Array Oper} {o:Oper} {a:Act}  {Q:Exit->Act->World->Prop} {E:Prop}  (hg:o.guard=none) (d x:Operand) (GL:o.op=Op.call {callee:=Callee.builtin Builtin.append,args:=#[d,x],argTypes:=#[224,224]})
  (hd:a.eval d=v) (hx:a.eval x=σ (some ↑b) 1 1) (m:zaQ B p P0 w0 v ks cv ps W) (hs:zM zhn 3 W (some ↑b) 1 [k]) (hl:ks.length<=100000000)
 (h:∀v' w',zaQ B p P0 w0 v' (ks++ [k]) cv ps w'->W.grownBy w' v.ownBlock->K (a.put o.dst v') w'):
 if Region.wanted o (yielded ops a.tmps)=true then Oper.wp prog o a W K Q else E:=by
 obtain ⟨v',w',hr,m',IB⟩:=m.app hs hl;exact zL hg d x _ _ GL _ _ hd hx (hr _) (h v' w' m' IB)
end
def zcy (kv cv:Value):Obj:= .cells #[.bool false,kv,σ none 0 0,cv,ν 0] 227
theorem zaQ.node {x:Value}     (m:zaQ B p (.cells #[.bool false,x,σ none 0 0,cv',ν 0] 227) w0 kv ks cv ps W):
 W (p 1 ())=some x/\W.frozen? (p 1 ())=false:=by
 have h1:=m.hp;refine ⟨?_, ?_⟩ <;> simp [World.cell?,World.frozen?,h1]
theorem zaQ.to (m:zaQ B p (.cells #[.bool false,kv',σ none 0 0,cv',ν 0] 227) w0 kv ks cv ps W) (x:Value):
 zaQ B p (.cells #[.bool false,x,σ none 0 0,cv',ν 0] 227) w0 kv ks cv ps (W.setCell (p 1 ()) x):=by
 have h1:=heap_setCell_same W p 1 _ _ x m.hp;have AR:(W.setCell (p 1 ()) x).heap.size=↑W:=uh;have hg:W.grownBy (W.setCell (p 1 ()) x) (some p):=⟨rfl,rfl,rfl,by rw [AR];exact zl,fun j hj Aj=> by
  rw [heap_setCell_other _ _ j _ (fun e=> Aj uJ)]⟩
 have Du:=m.k.lt;have UQ:=m.Bp;have hlt:=m.lt;refine ⟨m.k.kept hg (.inr fun e=> by have:=(Du p e).1;omega),m.c.kept hg (.inr fun e=> by have:=m.cp p e;omega),m.cp,h1,m.Bp,m.below.grown hg ud (fun j hj=> by cases hj;exact UQ)⟩
theorem zi3 {ks:List (Tr d)} (m:zaQ B p (zcy kv cv) w0 kv (ks.map zad) cv ps w) (GM:ps.length=ks.length)
 (hN:∀(i q:Nat) (k:Tr d),ps[i]? =some q->ks[i]? =some k->zQ w0 S q k) (hS:∀j,S j->j < B):zQ w (fun j=> S j\/(B<=j/\j < ↑w)) p (mkT ks):=by
 obtain ⟨ka,kc,rfl,hk,-,BX⟩:=m.k.row zeT;obtain ⟨ca,cc,rfl,hc,-,Em⟩:=m.c.row zE;have hlt:=m.lt;have UQ:=m.Bp;have Ga:zC (mkT ks)=ks.map zad:=rfl;rw [List.length_map] at hk;refine ⟨ka,kc,ca,cc,ps,⟨⟨ν 0, ?_⟩, .inr ⟨UQ,hlt⟩,fun b o e=> ?_,(fun b o e=> by cases e),fun b o e=> ?_⟩,hk.keys, ?_,GM,fun i q k hq hk=> ?_⟩
 ·have:=m.hp;unfold zcy at this;rw [List.length_map,GM] at this;exact this
 ·obtain ⟨h1,h2⟩:=BX b o e;subst h2;subst e;have:=m.k.lt b rfl;exact .inr ⟨ud,this.2⟩
 ·obtain ⟨h1,h2⟩:=Em b o e;subst h2;subst e;have:=m.c.lt b rfl;exact .inr ⟨h1,this.2⟩
 ·rw [zpk,<- GM];exact hc.ptrs
 exact ((hN i q k hq hk).same (zbk.of_below m.below hS)).more (fun j hj=> .inl hj)
theorem zdN {b0 o0:Nat}  {ks:List (Tr d)} (h:zM zcV 1 w (some ⟨b0,o0,none⟩) n ps) (hn:n<=1000) (GM:ps.length=ks.length)
 (hN:∀(i q:Nat) (k:Tr d),ps[i]? =some q->ks[i]? =some k->zQ w S q k) (h0:∀k ∈ ks,0 < zH k) (hS:∀j,S j->j < w.heap.size):
 χ 157 #[σ (some ⟨b0,o0,none⟩) n c] w fun r w'=> ∃p,r=ρ (zv p)/\zQ w' (fun j=> S j\/(w.heap.size<=j/\j < w'.heap.size)) p (mkT ks)/\θ w.heap.size w w':=by
 have Ac:=h.1;have HH:=zh h;have HN:=zh hN;have HC:=zh (zdg (c:=c) h hn);clear h hN;unfold zv;go_enter func157,ntmps157;go_wp2_with fail;refine HC.out.mono ?_;rintro e w1 ⟨cv,rfl,Vd,Aa⟩;obtain ⟨ca,cn,cc,rfl⟩:=Vd.form;have AN:=Vd.lt;have m0:zaQ w.heap.size w1.heap.size (zcy (σ none 0 0) (σ ca cn cc)) w (σ none 0 0) [] (σ ca cn cc) ps (w1.alloc (zcy (σ none 0 0) (σ ca cn cc))):=
  ⟨World.ownsRow_nil _ _ _ _,Vd.alloc _,fun g hg=> (AN g hg).2,heap_alloc_new w1 _,Aa.size,Aa.alloc Aa.size _⟩
 have M9:=zh m0;unfold zcy at M9;clear m0 Vd AN HC;go_wp2_with fail;generalize w1.alloc (.cells #[.bool false,σ none 0 0,σ none 0 0,σ ca cn cc,ν 0] 227)=w2 at *;generalize hp:w1.heap.size=p at *;generalize hB:w.heap.size=B at *
 go_loopw [12] (fun u12 wr=> ∃i:Nat,∃kv:Value,i<=n/\u12= ι i/\zaQ B p (zcy kv (σ ca cn cc)) w kv ((ks.take i).map zad) (σ ca cn cc) ps wr) (fun u12 _=> n - (intOf u12).toNat)
 case atStart=> exact ⟨0,σ none 0 0,by omega,rfl,M9.out⟩
 case round=>
  obtain ⟨i,kv,hi,rfl,m⟩:=hrel;obtain ⟨ka0,kn0,kc0,rfl⟩:=m.k.form
  by_cases hlt:i < n
  ·have Bb:(i:Int) < (n:Int):=by omega
   obtain ⟨q,hq⟩:∃q,ps[i]? =some q:=⟨_,ze (by omega)⟩
   obtain ⟨k,hk⟩:∃k,ks[i]? =some k:=⟨_,ze (by omega)⟩
   have Ah:=HH.out.below m.below (by omega)
   obtain ⟨b',o',FF,hc⟩:=Ah.ptr i q hq;simp only [Option.some.injEq,Addr.mk.injEq,and_true] at FF;obtain ⟨rfl,rfl⟩:=FF;unfold zv at hc;have jE:=(HN.out i q k hq hk).same (zbk.of_below m.below hS);have BX:=h0 k (zm hk);obtain ⟨ka,kc,va,vn,vc,ca',cn',cc',AH,Eu⟩:=jE.box;obtain ⟨-,x1,-,-,IM⟩:=AH.reads;obtain ⟨kb,ko,fk,rfl,Yd,z0,z1,z2⟩:=Eu.list 0 BX;rw [zkT k BX] at Yd;obtain rfl:zad k=fk:=Option.some.inj Yd;have BY:(0:Int) < (zH k:Int):=by omega
   have Gi:(ks.take (i+1)).map zad=(ks.take i).map zad++ [zad k]:=by rw [List.take_add_one,hk,List.map_append];rfl
   have WJ:=zh Gi;have EF:((ks.take i).map zad).length<=1000:=by rw [List.length_map,List.length_take];omega
   have Y7:S q:=AH.self;have cu:q≠p:=fun e=> by have:=hS q Y7;have:=m.Bp;omega
   have FV:kb≠p:=fun e=> by have:=hS kb (AH.keys kb ko rfl);have:=m.Bp;omega
   simp only [Nat.zero_mul,Nat.add_zero] at z0 z1 z2;have Yp:∀W,θ B w W->W.cell? ⟨q,1,none⟩=some (σ (some ⟨kb,ko,none⟩) (zH k) kc)/\W.cell? ⟨kb,ko,none⟩=some (τ (zj (zad k)))/\W.cell? ⟨kb,ko+1,none⟩=some (ν (zo (zad k)))/\W.cell? ⟨kb,ko+2,none⟩=some (υ (zp (zad k))):=fun W hW=> by
        have hs:zbk S wr W:=fun j hj=> (hW.block j (hS j hj)).trans (m.below.block j (hS j hj)).symm;have ED:=AH.keys kb ko rfl;exact ⟨(zau hs Y7 _).trans x1,(zau hs ED _).trans z0,(zau hs ED _).trans z1,(zau hs ED _).trans z2⟩
   have IZ:=zh Yp;have Cq:=Yp wr m.below;have m1:=m.drew;unfold zcy at m1;have mK:=(m1.alloc (.cells #[τ (zj (zad k)),ν (zo (zad k)),υ (zp (zad k))] 111));have mK':zaQ B p (.cells #[.bool false,σ ka0 kn0 kc0,σ none 0 0,σ ca cn cc,ν 0] 227) w (σ ka0 kn0 kc0) ((ks.take i).map zad) (σ ca cn cc) ps (wr.alloc (.cells #[τ (zj (zad k)),ν (zo (zad k)),υ (zp (zad k))] 111)).drew:=mK;have pK:zM zhn 3 (wr.alloc (.cells #[τ (zj (zad k)),ν (zo (zad k)),υ (zp (zad k))] 111)).drew (some ⟨wr.heap.size,0,none⟩) 1 [zad k]:=zM.new (enc:=zhn) wr (zad k) 111;obtain ⟨y1,y2⟩:=m1.node;obtain ⟨yK1,yK2⟩:=mK'.node;clear mK m Gi Ah jE AH Eu Yd Y7 Yp x1 z0 z1 z2 hq hk;generalize zad k=fk at *;generalize zH k=lk at *;go_wp2_with fail;obtain ⟨l0,l1,l2,l3⟩:=Cq;obtain ⟨b0,b1,b2,b3⟩:=IZ.out _ mK'.below
   go_region_law
        (first
          | (refine znm (v:=σ ka0 kn0 kc0) (o:=⟨some 28,_,_,_,_,_⟩) rfl _ _ rfl rfl rfl (by with_reducible exact mK') (by with_reducible exact pK) (by omega) ?_;intro kv' W1 mN Cf;obtain ⟨ka1,kn1,kc1,rfl⟩:=mN.k.form;obtain ⟨yN1,yN2⟩:=mN.node))
   all_goals
        go_wp2_with fail;have hf:=mN.to (σ ka1 kn1 kc1)
        go_roundw
        case rel=> exact ⟨i+1,σ ka1 kn1 kc1,by omega,by go_num,by rw [WJ.out];exact hf⟩
        case measure=> simp [intOf];omega
  obtain rfl:i=n:=by omega
  rw [zk (by omega)] at m
  have hd:=zi3 m GM HN.out hS;have HD:=zh (zn hd m.below);clear hd m;go_wp2_with fail;go_ret;exact ⟨p,rfl,by rw [hB];exact HD.out.1,by rw [hB];exact HD.out.2⟩
end
section
open Go.RowKit
def zat (w:World) (S:Nat->Prop) (ps:List Nat) (ks:List (Tr d)):Prop:=ps.length=ks.length/\∀(i q:Nat) (k:Tr d),ps[i]? =some q->ks[i]? =some k->zQ w S q k
theorem zat.one {t:Tr d} (h:zQ w S p t):zat w S [p] [t]:=⟨rfl,fun i q k hq hk=> by
 have hi:i < 1:=by simpa using (zi hq).1
 obtain rfl:i=0:=ud;simp at hq hk;subst hq;subst hk;exact h⟩
theorem zat.two {t t':Tr d} (h:zQ w S p t) (h':zQ w S p' t'):zat w S [p,p'] [t,t']:=⟨rfl,fun i q k hq hk=> by
 have hi:i < 2:=by simpa using (zi hq).1
 cases i with
 | zero=> simp at hq hk;subst hq;subst hk;exact h
 | succ i=>
   obtain rfl:i=0:=ud;simp at hq hk;subst hq;subst hk;exact h'⟩
theorem zat.more {ks:List (Tr d)} (h:zat w S ps ks) (hs:∀j,S j->S' j):zat w S' ps ks:=⟨h.1,fun i q k hq hk=> (h.2 i q k hq hk).more hs⟩
theorem zat.same {ks:List (Tr d)} (h:zat w S ps ks) (hs:zbk S w w'):zat w' S ps ks:=⟨h.1,fun i q k hq hk=> (h.2 i q k hq hk).same hs⟩
theorem zat.take {d:Nat} {w:World} {S:Nat→Prop} {ps:List Nat} {ks:List (Tr d)} (h:zat w S ps ks) (n:Nat):zat w S (ps.take n) (ks.take n):=⟨by rw [List.length_take,List.length_take,h.1],fun i q k hq hk=> by
 have hi:i < n:=by
  have:=(zi hq).1;rw [List.length_take] at this;omega
 rw [List.getElem?_take_of_lt hi] at hq hk;exact h.2 i q k hq hk⟩
theorem zat.drop {ks:List (Tr d)} (h:zat w S ps ks) (n:Nat):zat w S (ps.drop n) (ks.drop n):=⟨by rw [List.length_drop,List.length_drop,h.1],fun i q k hq hk=> by
 rw [List.getElem?_drop] at hq hk;exact h.2 _ q k hq hk⟩
theorem zat.app {ps':List Nat} {ks ks':List (Tr d)} (h:zat w S ps ks) (h':zat w S ps' ks'):zat w S (ps++ps') (ks++ks'):=⟨by rw [List.length_append,List.length_append,h.1,h'.1],fun i q k hq hk=> by
 by_cases hi:i < ps.length
 ·rw [List.getElem?_append_left hi] at hq;rw [List.getElem?_append_left (by rw [<- h.1];exact hi)] at hk
  exact h.2 i q k hq hk
 rw [List.getElem?_append_right ud] at hq;rw [List.getElem?_append_right (by rw [<- h.1];omega),<- h.1] at hk
 exact h'.2 _ q k hq hk⟩
theorem zmX (w:World) (B p:Nat) (hB:B<=↑w):zK zcV 1 157 (w.alloc (.cells #[π (some ↑p)] 157)) B (σ (some ↑w) 1 1) [p]:=by
 refine ⟨rfl, .inr ⟨↑w,1,#[π (some ↑p)],rfl,hB,heap_alloc_new w _,zl,uf,rfl,rfl⟩⟩
theorem zmY (w:World) (B p q:Nat) (hB:B<=↑w):zK zcV 1 157 (w.alloc (.cells #[π (some ↑p),π (some ↑q)] 157)) B (σ (some ↑w) 2 2) [p,q]:=by
 refine ⟨rfl, .inr ⟨↑w,2,#[π (some ↑p),π (some ↑q)],rfl,hB,heap_alloc_new w _,zl,uf,rfl,rfl⟩⟩
theorem ziY (w:World) (b o n c:Nat) (h0:0 < n) (hc:n<=c) (hn:n<=1000):
 χ 194 #[σ (some (b o ())) n c] w fun r w'=> r=ρ (.tuple #[σ (some (b o ())) (n / 2) c,σ (some (b (o+n / 2 * 4) ())) (n - n / 2) (c - n / 2)])/\θ w w w':=by
 have hx:(n:Int) / 2=((n / 2:Nat):Int):=ud;have h1:n / 2<=c:=ud;have h2:n / 2<=n:=ud;have h3:¬c=n / 2:=ud;generalize n / 2=m at *;go_in;go_wp2_with fail
 go_region
 all_goals
  go_wp2;go_ret2;exact ⟨rfl,zr.drew⟩
theorem ziZ (w:World) (b o n c:Nat) (h0:0 < n) (hc:n<=c) (hn:n<=1000):
 χ 195 #[σ (some (b o ())) n c] w fun r w'=> r=ρ (.tuple #[σ (some (b o ())) (n / 2) c,σ (some (b (o+n / 2) ())) (n - n / 2) (c - n / 2)])/\θ w w w':=by
 have hx:(n:Int) / 2=((n / 2:Nat):Int):=ud;have h1:n / 2<=c:=ud;have h2:n / 2<=n:=ud;have h3:¬c=n / 2:=ud;generalize n / 2=m at *;go_in;go_wp2_with fail
 go_region
 all_goals
  go_wp2;go_ret2;exact ⟨rfl,zr.drew⟩
theorem zee (h:zM zaW 4 w a n es) (hc:n<=c) (hn:n<=1000):
 χ 152 #[σ a n c] w fun r w'=> ∃v ps,r=ρ v/\zK zcV 1 157 w' ↑w v ps/\zat w' (fun j=> ↑w<=j/\j < ↑w') ps (zbv zbM es)/\θ w w w':=by
 have Ac:=h.1
 by_cases h0:n=0
 ·subst h0;obtain rfl:es= []:=List.eq_nil_of_length_eq_zero Ac;go_in;go_wp2;go_ret;exact ⟨_, [],rfl,World.ownsRow_nil _ _ _ _,⟨rfl,fun i q k hq _=> by simp at hq⟩,Below.refl _ _⟩
 have Ft:¬((n:Int)=0):=ud
 by_cases h6:n<=6
 ·have WW:(n:Int)<=6:=ud;have hp:zbv zbM es= [zbM es]:=zbO zbM ud ud;have HL:=zh (zeW (c:=c) h hn);have HP:=zh hp;unfold zv at HL;go_in;go_wp2_with fail;refine HL.out.mono ?_;rintro e w1 ⟨p,rfl,hN,hb⟩;have HB:=zh hb;have Ez:=zh hN;go_wp2;go_ret;have Ae:=HB.out.alloc HB.out.size (.cells #[π (some ↑p)] 157);have AR:=World.alloc_size w1 (.cells #[π (some ↑p)] 157);refine ⟨_, [p],rfl,zmX w1 _ p HB.out.size, ?_,Ae⟩;rw [HP.out];exact zat.one ((Ez.out.same (fun j hj=> Below.heap_alloc _ _ _ hj.2)).more (fun j hj=> ⟨hj.1,by rw [AR];omega⟩))
 have WW:¬(n:Int)<=6:=ud;obtain ⟨b,o,rfl⟩:∃b o,a=some ⟨b,o,()⟩:=by
      obtain ⟨b,o,e,-⟩:=h.2 0 _ (ze (show 0 < es.length by omega))
      exact ⟨b,o,e⟩
 have hp:zbv zbM es= [zbM (es.take (n / 2)),zbM (es.drop (n / 2))]:=by rw [zdT zbM ud,Ac]
 have hA:=h.take (n / 2) ud;have hB:=h.drop (n / 2);have HA:=zh hA;have HB:=zh hB;have HV:=zh (ziY w b o n c ud hc hn);have HP:=zh hp;have Fs:n / 2<=1000:=ud;have YF:n - n / 2<=1000:=ud;generalize n / 2=m at *;unfold zv at *;go_in;go_wp2_with fail;refine HV.out.mono ?_;rintro e w1 ⟨rfl,Aa⟩;have Ak:=zh Aa;have HL:=zh (zeW (c:=c) (HA.out.below Aa zl) Fs);unfold zv at HL;go_wp2_with fail;refine HL.out.mono ?_;rintro e w2 ⟨p,rfl,I7,Ae⟩;have Ap:=zh Ae;have Wq:=zh I7;have I0:=zh (zeW (c:=c - m) ((HB.out.below Ak.out zl).below Ae zl) YF);unfold zv at I0;go_wp2_with fail;refine I0.out.mono ?_;rintro e w3 ⟨q,rfl,JC,Am⟩;have AI:=zh Am;have Qp:=zh JC;go_wp2;go_ret;have s1:=Ak.out.size;have s2:=Ap.out.size;have s3:=AI.out.size;have Ao:θ w w w3:=(Ak.out.trans (Ap.out.mono s1)).trans (AI.out.mono ud);have Ar:=Ao.alloc Ao.size (.cells #[π (some ↑p),π (some ↑q)] 157);have AR:=World.alloc_size w3 (.cells #[π (some ↑p),π (some ↑q)] 157);refine ⟨_, [p,q],rfl,zmY w3 _ p q Ao.size, ?_,Ar⟩;rw [HP.out];refine zat.two ((Wq.out.same (fun j hj=> ?_)).more (fun j hj=> ⟨ud,by rw [AR];omega⟩)) ((Qp.out.same (fun j hj=> Below.heap_alloc _ _ _ hj.2)).more (fun j hj=> ⟨ud,by rw [AR];omega⟩))
 rw [Below.heap_alloc _ _ _ ud];exact AI.out.block j hj.2
theorem zea {o:Nat}  {ks:List (Tr d)} (h:zM zcV 1 w (some (b o ())) n ps) (hc:n<=c) (hn:n<=1000) (Ft:0 < n) (hK:zat w S ps ks) (h0:∀k ∈ ks,0 < zH k) (hS:∀j,S j->j < ↑w):
 χ 154 #[σ (some (b o ())) n c] w fun r w'=> ∃v ps',r=ρ v/\zK zcV 1 157 w' ↑w v ps'/\zat w' (fun j=> S j\/(↑w<=j/\j < ↑w')) ps' (zbv mkT ks)/\θ w w w':=by
 have Ac:=h.1;have Du:=hK.1;have az:¬((n:Int)=0):=ud
 by_cases h6:n<=6
 ·have WW:(n:Int)<=6:=ud;have hp:zbv mkT ks= [mkT ks]:=zbO mkT ud ud;have HL:=zh (zdN (c:=c) h hn hK.1 hK.2 h0 hS);have HP:=zh hp;unfold zv at HL;go_in;go_wp2_with fail;refine HL.out.mono ?_;rintro e w1 ⟨p,rfl,hN,hb⟩;have HB:=zh hb;have Ez:=zh hN;go_wp2;go_ret;have Ae:=HB.out.alloc HB.out.size (.cells #[π (some ↑p)] 157);have AR:=World.alloc_size w1 (.cells #[π (some ↑p)] 157);refine ⟨_, [p],rfl,zmX w1 _ p HB.out.size, ?_,Ae⟩;rw [HP.out];exact zat.one ((Ez.out.same (fun j hj=> Below.heap_alloc _ _ _ (hj.elim (fun h=> by have:=HB.out.size;have:=hS j h;omega) (fun h=> h.2)))).more (fun j hj=> hj.elim .inl (fun h=> .inr ⟨h.1,by rw [AR];omega⟩)))
 have WW:¬(n:Int)<=6:=ud;have hp:zbv mkT ks= [mkT (ks.take (n / 2)),mkT (ks.drop (n / 2))]:=by rw [zdT mkT ud,<- Du,Ac]
 have hA:=h.take (n / 2) ud;have hB:=h.drop (n / 2);rw [Nat.mul_one] at hB;have HA:=zh hA;have HB:=zh hB;have Ql:=zh (hK.take (n / 2));have qV:=zh (hK.drop (n / 2));have HV:=zh (ziZ w b o n c ud hc hn);have HP:=zh hp;have Fs:n / 2<=1000:=ud;have YF:n - n / 2<=1000:=ud;have h0A:∀k ∈ ks.take (n / 2),0 < zH k:=fun k hk=> h0 k (List.mem_of_mem_take hk);have h0B:∀k ∈ ks.drop (n / 2),0 < zH k:=fun k hk=> h0 k (List.mem_of_mem_drop hk);have H0A:=zh h0A;have H0B:=zh h0B;generalize n / 2=m at *;unfold zv at *;go_in;go_wp2_with fail;refine HV.out.mono ?_;rintro e w1 ⟨rfl,Aa⟩;have Ak:=zh Aa;have OQ:=Ql.out.same (zbk.of_below Aa hS);have HL:=zh (zdN (c:=c) (HA.out.below Aa zl) Fs OQ.1 OQ.2 H0A.out (fun j hj=> zt (hS j hj) Aa.size));unfold zv at HL;go_wp2_with fail;refine HL.out.mono ?_;rintro e w2 ⟨p,rfl,I7,Ae⟩;have Ap:=zh Ae;have Wq:=zh I7;have OR:=(qV.out.same (zbk.of_below Ak.out hS)).same (zbk.of_below Ae (fun j hj=> zt (hS j hj) Ak.out.size));have I0:=zh (zdN (c:=c - m) ((HB.out.below Ak.out zl).below Ae zl) YF OR.1 OR.2 H0B.out (fun j hj=> by have:=hS j hj;have:=Ak.out.size;have:=Ap.out.size;omega))
 unfold zv at I0;go_wp2_with fail;refine I0.out.mono ?_;rintro e w3 ⟨q,rfl,JC,Am⟩;have AI:=zh Am;have Qp:=zh JC;go_wp2;go_ret;have s1:=Ak.out.size;have s2:=Ap.out.size;have s3:=AI.out.size;have Ao:θ w w w3:=(Ak.out.trans (Ap.out.mono s1)).trans (AI.out.mono ud);have Ar:=Ao.alloc Ao.size (.cells #[π (some ↑p),π (some ↑q)] 157);have AR:=World.alloc_size w3 (.cells #[π (some ↑p),π (some ↑q)] 157);refine ⟨_, [p,q],rfl,zmY w3 _ p q Ao.size, ?_,Ar⟩;rw [HP.out];refine zat.two ((Wq.out.same (fun j hj=> ?_)).more (fun j hj=> ?_)) ((Qp.out.same (fun j hj=> Below.heap_alloc _ _ _ ?_)).more (fun j hj=> ?_))
 ·have EC:j < ↑w2:=hj.elim (fun h=> by have:=hS j h;omega) (fun h=> h.2)
  rw [Below.heap_alloc _ _ _ ud];exact AI.out.block j EC
 ·rcases hj with h | h
  ·exact .inl h
  exact .inr ⟨ud,by rw [AR];omega⟩
 ·rcases hj with h | h
  ·have:=hS j h;omega
  exact h.2
 rcases hj with h | h
 ·exact .inl h
 exact .inr ⟨ud,by rw [AR];omega⟩
end
section
open Go.RowKit
theorem zn8 (x:Nat) (ks:List Nat) (k:Nat):lbN (x::ks) k=(if x < k then 1 else 0)+lbN ks k:=by
 unfold lbN;rw [List.filter_cons]
 by_cases h:x < k
 ·rw [if_pos (by simpa using h),if_pos h,List.length_cons,Nat.add_comm]
 rw [if_neg (by simpa using h),if_neg h,Nat.zero_add]
theorem zn9 (h:∀x ∈ ks,k<=x):lbN ks k=0:=by
 unfold lbN;rw [List.filter_eq_nil_iff.2 (fun x hx=> by have:=h x hx;simp;omega)]
 rfl
theorem zfC (h:zac l) (e:En):
 (e.1 ∈ l.map (·.1)->lbN (l.map (·.1)) e.1 < l.length/\zaR l e=l.set (lbN (l.map (·.1)) e.1) e/\zaJ l e.1=l.take (lbN (l.map (·.1)) e.1)++l.drop (lbN (l.map (·.1)) e.1+1))/\
 (e.1 ∉ l.map (·.1)->lbN (l.map (·.1)) e.1<=l.length/\zaR l e=l.take (lbN (l.map (·.1)) e.1)++e::l.drop (lbN (l.map (·.1)) e.1)/\zaJ l e.1=l):=by
 induction l with
 | nil=> exact ⟨fun h=> by simp at h,fun _=> ⟨zl,rfl,rfl⟩⟩
 | cons x l ih=>
   have hx:=(List.pairwise_cons.1 h).1;obtain ⟨i1,i2⟩:=ih (List.pairwise_cons.1 h).2;have hz:¬x.1 < e.1->lbN (l.map (·.1)) e.1=0:=fun hn=> zn9 fun y hy=> by
    obtain ⟨z,hz,rfl⟩:=List.mem_map.1 hy;have:=hx z hz
    omega
   rw [List.map_cons,zn8]
   by_cases hlt:x.1 < e.1
   ·rw [if_pos hlt,Nat.add_comm 1];refine ⟨fun hm=> ?_,fun hm=> ?_⟩
    ·have Fs:e.1 ∈ l.map (·.1):=by
      rcases List.mem_cons.1 hm with h | h
      ·omega
      exact h
     obtain ⟨a1,a2,a3⟩:=i1 Fs;refine ⟨uo, ?_, ?_⟩
     ·rw [zaR,if_pos hlt,a2];rfl
     rw [zaJ,if_pos hlt,a3];rfl
    obtain ⟨a1,a2,a3⟩:=i2 (fun h=> hm (List.mem_cons.2 (.inr h)));refine ⟨uo, ?_, ?_⟩
    ·rw [zaR,if_pos hlt,a2];rfl
    rw [zaJ,if_pos hlt,a3]
   rw [if_neg hlt,Nat.zero_add,hz hlt];refine ⟨fun hm=> ?_,fun hm=> ?_⟩
   ·have MZ:x.1=e.1:=by
     rcases List.mem_cons.1 hm with h | h
     ·exact h.symm
     obtain ⟨z,hz,Ju⟩:=List.mem_map.1 h;have:=hx z hz
     omega
    refine ⟨uh, ?_, ?_⟩
    ·rw [zaR,if_neg hlt,if_pos MZ];rfl
    rw [zaJ,if_neg hlt,if_pos MZ];rfl
   have MZ:x.1≠e.1:=fun h=> hm (List.mem_cons.2 (.inl h.symm));refine ⟨uh, ?_, ?_⟩
   ·rw [zaR,if_neg hlt,if_neg MZ];rfl
   rw [zaJ,if_neg hlt,if_neg MZ]
theorem zmq {o:Nat} {cur:Array Value}  (h:w.heap[g]? =some (.cells cur t (0,0))) (a b c d:Value) (o1 o2 o3:Nat):
 ((((w.setCell (g o ()) a).setCell (g o1 ()) b).setCell (g o2 ()) c).setCell (g o3 ()) d).heap[g]? =some (.cells ((((cur.setIfInBounds o a).setIfInBounds o1 b).setIfInBounds o2 c).setIfInBounds o3 d) t (0,0)):=by
 have e1:=heap_setCell_same w g o cur t a h;have e2:=heap_setCell_same (w.setCell (g o ()) a) g o1 _ t b e1;have e3:=heap_setCell_same ((w.setCell (g o ()) a).setCell (g o1 ()) b) g o2 _ t c e2;exact heap_setCell_same (((w.setCell (g o ()) a).setCell (g o1 ()) b).setCell (g o2 ()) c) g o3 _ t d e3
theorem zmr (cur:Array Value) (o:Nat) (a b c d:Value) (hb:o+4<=cur.size):
 ((((cur.setIfInBounds o a).setIfInBounds (o+1) b).setIfInBounds (o+2) c).setIfInBounds (o+3) d)=(cur.toList.take o++ [a,b,c,d]++cur.toList.drop (o+ [a,b,c,d].length)).toArray:=by
 apply Array.ext_getElem?
 intro t;have hlt:(cur.toList.take o).length=o:=by rw [List.length_take,Array.length_toList];omega
 rw [show (cur.toList.take o++ [a,b,c,d]++cur.toList.drop (o+ [a,b,c,d].length)).toArray[t]? =(cur.toList.take o++ [a,b,c,d]++cur.toList.drop (o+ [a,b,c,d].length))[t]? from List.getElem?_toArray];simp only [Array.getElem?_setIfInBounds,Array.size_setIfInBounds]
 by_cases c1:t < o
 ·rw [if_neg ud,if_neg ud,if_neg ud,if_neg ud,List.append_assoc,List.getElem?_append_left ud,List.getElem?_take_of_lt c1,Array.getElem?_toList]
 by_cases c2:t < o+4
 ·rw [List.append_assoc,List.getElem?_append_right ud,hlt,List.getElem?_append_left uo];obtain ⟨q,rfl⟩:∃q,t=o+q:=⟨t - o,ud⟩;have hq:q=0\/q=1\/q=2\/q=3:=ud;rcases hq with rfl | rfl | rfl | rfl
  ·rw [if_neg ud,if_neg ud,if_neg ud,if_pos ud];simp;omega
  ·rw [if_neg ud,if_neg ud,if_pos ud];simp;omega
  ·rw [if_neg ud,if_pos ud];simp;omega
  rw [if_pos ud];simp;omega
 rw [if_neg ud,if_neg ud,if_neg ud,if_neg ud,List.append_assoc,List.getElem?_append_right ud,hlt,List.getElem?_append_right uo,List.getElem?_drop,Array.getElem?_toList];simp only [List.length_cons,List.length_nil]
 congr 1;omega
theorem zn2 (h:zbS zaW 4 113 w g cap l) (i:Nat) (hi:i < l.length) (e:En):
 zbS zaW 4 113 ((((w.setCell (g (i * 4) ()) (τ (zj e.1))).setCell (g (i * 4+1) ()) (ν (zo e.1))).setCell (g (i * 4+2) ()) (υ (zp e.1))).setCell (g (i * 4+3) ()) (ν e.2)) g cap (l.set i e)/\
 zcN g w ((((w.setCell (g (i * 4) ()) (τ (zj e.1))).setCell (g (i * 4+1) ()) (ν (zo e.1))).setCell (g (i * 4+2) ()) (υ (zp e.1))).setCell (g (i * 4+3) ()) (ν e.2)):=by
 obtain ⟨cur,h1,h2,h3⟩:=h.ex;have BO:=h.le;have ho:=(h.over zN h1 i ud [e] (by show i+1<=cap;omega)).2 (by show i+1<=_;omega)
 have Ad:l.take i++ [e]++l.drop (i+ [e].length)=l.set i e:=by
  rw [List.set_eq_take_append_cons_drop,if_pos hi,List.append_assoc];rfl
 rw [Ad] at ho;have hc:zB zaW [e]= [τ (zj e.1),ν (zo e.1),υ (zp e.1),ν e.2]:=rfl;have hb:i * 4+4<=cur.size:=by rw [h2];omega
 rw [hc,<- zmr cur (i * 4) _ _ _ _ hb] at ho;have e2:=setRow_heap w g cur ((((cur.setIfInBounds (i * 4) (τ (zj e.1))).setIfInBounds (i * 4+1) (ν (zo e.1))).setIfInBounds (i * 4+2) (υ (zp e.1))).setIfInBounds (i * 4+3) (ν e.2)) _ _ h1;refine ⟨ho.heap ((zmq h1 _ _ _ _ _ _ _).trans e2.symm),⟨rfl,rfl,rfl,uh,fun j hj=> ?_⟩⟩;rw [heap_setCell_other _ _ j _ hj,heap_setCell_other _ _ j _ hj,heap_setCell_other _ _ j _ hj,heap_setCell_other _ _ j _ hj]
theorem zK.below {α:Type} {enc:α->List Value}      {l:List α} (h:zK enc k e w B v l)  (hb:θ C w w') (hC:↑w<=C):zK enc k e w' B v l:=
 h.kept (row:=none) ⟨hb.os,hb.tape,hb.output,hb.size,fun j hj _=> hb.block j ud⟩ (by cases hv:v.ownBlock with | none=> exact .inl rfl | some g=> exact .inr (fun e=> by cases e))
theorem zK.base {α:Type} {enc:α->List Value}      {l:List α} (h:zK enc k e w B v l) (hb:B'<=B):zK enc k e w B' v l:=by
 refine ⟨h.1, ?_⟩;rcases h.2 with h2 | ⟨g,cap,cur,hv,hg,r⟩
 ·exact .inl h2
 exact .inr ⟨g,cap,cur,hv,ud,r⟩
theorem zoB {t:Tr 0} (ht:zQ w S p t) (hS:∀j,S j->j < w.heap.size) (hn:zH t<=900) (hr:zac (zS t)) (e:En):
 χ 151 #[zv p,zd1 e] w fun r w'=> ∃v x,r=ρ (.tuple #[v,ν x, .bool (decide (e.1 ∈ zC t))])/\zK zaW 4 113 w' w.heap.size v (zaR (zS t) e)/\θ w.heap.size w w':=by
 have EE:zC t=(zS t).map (·.1):=rfl;have Ac:zH t=(zS t).length:=rfl;have Eu:(zC t).Pairwise (· < ·):=by rw [EE];exact List.pairwise_map.2 hr
 obtain ⟨q1,q2⟩:=zfC hr e;rw [<- EE] at q1 q2;have Aq:θ w.heap.size w (w.alloc (.cells #[τ (zj e.1),ν (zo e.1),υ (zp e.1),ν e.2] 113)):=zr.alloc zl _;have DP:(w.alloc (.cells #[τ (zj e.1),ν (zo e.1),υ (zp e.1),ν e.2] 113)).heap[w.heap.size]? =some (.cells #[τ (zj e.1),ν (zo e.1),υ (zp e.1),ν e.2] 113):=heap_alloc_new w _;have Cd:(w.alloc (.cells #[τ (zj e.1),ν (zo e.1),υ (zp e.1),ν e.2] 113)).heap.size=w.heap.size+1:=World.alloc_size _ _;have RW:=ht.same (zbk.of_below Aq hS);have HE:=zh (zbH RW (fun j hj=> by rw [Cd];have:=hS j hj;omega) (by omega))
 unfold zd1 zv at *;go_enter func151,ntmps151;go_wp2_with fail;generalize w.alloc (.cells #[τ (zj e.1),ν (zo e.1),υ (zp e.1),ν e.2] 113)=w0 at *;refine HE.out.mono ?_;rintro r w1 ⟨v,rfl,hv,Aa⟩;rw [Cd] at hv Aa;have B3:θ w.heap.size w w1:=Aq.trans (Aa.mono (by omega))
 have BB:w1.heap[w.heap.size]? =some (.cells #[τ (zj e.1),ν (zo e.1),υ (zp e.1),ν e.2] 113):=by rw [Aa.block w.heap.size (by omega)];exact DP
 have RX:=ht.same (zbk.of_below B3 hS);obtain ⟨ka,kc,va,vn,vc,ca,cn,cc,AH,Ec⟩:=RX.box;obtain ⟨-,y1,-,-,GM⟩:=AH.reads;have HB:=zh (zdw ka (zH t) kc (zC t) e.1 w1.drew (show ziq w1.drew _ _ _ from Ec) (by omega) Eu)
 obtain ⟨va',vn',vc',rfl⟩:=hv.form;have Ow:=zh q1;have Ox:=zh q2;have HV:=zh hv;have Fd:=zh B3;have Cq:w1.drew.cell? ⟨p,1,none⟩=some (σ ka (zH t) kc)/\w1.drew.cell? ⟨w.heap.size,0,none⟩=some (τ (zj e.1))/\w1.drew.cell? ⟨w.heap.size,1,none⟩=some (ν (zo e.1))/\w1.drew.cell? ⟨w.heap.size,2,none⟩=some (υ (zp e.1)):=⟨y1,cell_of_row w1 w.heap.size 0 _ _ _ BB,cell_of_row w1 w.heap.size 1 _ _ _ BB,cell_of_row w1 w.heap.size 2 _ _ _ BB⟩;have Bg:∀W,θ w1.drew.heap.size w1.drew W->W.cell? ⟨p,1,none⟩=some (σ ka (zH t) kc)/\W.cell? ⟨w.heap.size,0,none⟩=some (τ (zj e.1))/\W.cell? ⟨w.heap.size,1,none⟩=some (ν (zo e.1))/\W.cell? ⟨w.heap.size,2,none⟩=some (υ (zp e.1)):=fun W hW=>
  ⟨(hW.cell (zb _ _ Cq.1)).trans Cq.1,(hW.cell (zb _ _ Cq.2.1)).trans Cq.2.1,(hW.cell (zb _ _ Cq.2.2.1)).trans Cq.2.2.1,(hW.cell (zb _ _ Cq.2.2.2)).trans Cq.2.2.2⟩
 have B9:=zh Bg;have C6:=B3.size;have RI:w.heap.size < w1.heap.size:=(zg BB).1;have LT:=zh BB;unfold za2 at HB;clear ht DP RW HE Aq Aa BB RX AH Ec Eu hv q1 q2 Bg B3 y1 EE hr;generalize hB:w.heap.size=B at *
 by_cases hm:e.1 ∈ zC t
 ·have Cb:decide (e.1 ∈ zC t)=true:=decide_eq_true hm;rw [Cb] at HB;have Hg:=zh Cb;obtain ⟨hi,Ad,-⟩:=Ow.out hm;generalize lbN (zC t) e.1=i at *;obtain ⟨x,hx⟩:∃x,(zS t)[i]? =some x:=⟨_,ze hi⟩;have DY:=zh Ad;have OD:=zh hx;clear hm Cb Ow Ox Ad hx;have MT:(zS t).length<=1000:=by omega
  clear Ac Cd;generalize zH t=n at *;go_wp2_with fail
  go_region_held_law (fun W'=> W'.cell? ⟨p,1,none⟩=some (σ ka n kc)/\W'.cell? ⟨B,0,none⟩=some (τ (zj e.1))/\W'.cell? ⟨B,1,none⟩=some (ν (zo e.1))/\W'.cell? ⟨B,2,none⟩=some (υ (zp e.1)))
   (first | exact Cq | exact B9.out _ Ag)
   (first | (go_at_call 131;refine HB.out.mono ?_;rintro r w5 ⟨rfl,Ag⟩))
  all_goals
   have CL:θ B w w5:=Fd.out.trans ((show θ w1.heap.size w1 w5 from ⟨Ag.os,Ag.tape,Ag.output,Ag.size,Ag.block⟩).mono C6);have DV:w5.heap[B]? =some (.cells #[τ (zj e.1),ν (zo e.1),υ (zp e.1),ν e.2] 113):=(Ag.block B RI).trans LT.out;have IP:zK zaW 4 113 w5 (B+1) (σ va' vn' vc') (zS t):=HV.out.below (C:=w1.heap.size) ⟨Ag.os,Ag.tape,Ag.output,Ag.size,Ag.block⟩ zl;rcases IP.cases with ⟨-,h0⟩ | ⟨g,cap,he,Bc,BF,hR⟩
   ·rw [h0] at hi;simp at hi
   cases he
   obtain ⟨z0,z1,z2,z3⟩:w5.cell? ⟨B,0,none⟩=some (τ (zj e.1))/\w5.cell? ⟨B,1,none⟩=some (ν (zo e.1))/\w5.cell? ⟨B,2,none⟩=some (υ (zp e.1))/\w5.cell? ⟨B,3,none⟩=some (ν e.2):=⟨cell_of_row w5 B 0 _ _ _ DV,cell_of_row w5 B 1 _ _ _ DV,cell_of_row w5 B 2 _ _ _ DV,cell_of_row w5 B 3 _ _ _ DV⟩;obtain ⟨g',o',SN,Dn⟩:=(hR.row zN).2 i x OD.out
   cases SN
   have r0:=Dn 0 _ rfl;have r1:=Dn 1 _ rfl;have r2:=Dn 2 _ rfl;have r3:=Dn 3 _ rfl;simp only [Nat.zero_add,Nat.add_zero] at r0 r1 r2 r3;obtain ⟨curg,Nv,-,-⟩:=hR.ex;have Yg:∀j,w5.frozen? ⟨g,j,none⟩=false:=fun j=> by simp [World.frozen?,Nv]
   obtain ⟨jM,jS⟩:=zn2 hR i hi e;have KQ:=jM.own zN (show B<=g by omega)
   rw [List.length_set,<- DY.out] at KQ;have AT:=CL.grown jS.grown (by omega) (fun j hj=> by cases hj;omega)
   have HF:=zh (zn KQ AT);have G8:(i:Int) < ((zS t).length:Int):=by omega
   clear KQ AT jM jS hR Nv Dn IP DV CL;generalize (zS t).length=rn at *;go_wp2_with fail
   go_ret3
   exact ⟨_,(x.2:Int),by rw [Hg.out];rfl,by rw [hB];exact HF.out.1,by rw [hB];exact HF.out.2⟩
 have Cb:decide (e.1 ∈ zC t)=false:=decide_eq_false hm;rw [Cb] at HB;have Hg:=zh Cb;obtain ⟨hi,Ad,-⟩:=Ox.out hm;generalize lbN (zC t) e.1=i at *;have DY:=zh Ad;clear hm Cb Ow Ox Ad;have MT:(zS t).length<=1000:=by omega
 clear Ac Cd;generalize zH t=n at *;go_wp2_with fail
 go_region_held_law (fun W'=> W'.cell? ⟨p,1,none⟩=some (σ ka n kc)/\W'.cell? ⟨B,0,none⟩=some (τ (zj e.1))/\W'.cell? ⟨B,1,none⟩=some (ν (zo e.1))/\W'.cell? ⟨B,2,none⟩=some (υ (zp e.1)))
  (first | exact Cq | exact B9.out _ Ag)
  (first | (go_at_call 131;refine HB.out.mono ?_;rintro r w5 ⟨rfl,Ag⟩))
 all_goals
  have CL:θ B w w5:=Fd.out.trans ((show θ w1.heap.size w1 w5 from ⟨Ag.os,Ag.tape,Ag.output,Ag.size,Ag.block⟩).mono C6);have DV:w5.heap[B]? =some (.cells #[τ (zj e.1),ν (zo e.1),υ (zp e.1),ν e.2] 113):=(Ag.block B RI).trans LT.out;have IP:zK zaW 4 113 w5 (B+1) (σ va' vn' vc') (zS t):=HV.out.below (C:=w1.heap.size) ⟨Ag.os,Ag.tape,Ag.output,Ag.size,Ag.block⟩ zl;obtain ⟨z0,z1,z2,z3⟩:w5.cell? ⟨B,0,none⟩=some (τ (zj e.1))/\w5.cell? ⟨B,1,none⟩=some (ν (zo e.1))/\w5.cell? ⟨B,2,none⟩=some (υ (zp e.1))/\w5.cell? ⟨B,3,none⟩=some (ν e.2):=⟨cell_of_row w5 B 0 _ _ _ DV,cell_of_row w5 B 1 _ _ _ DV,cell_of_row w5 B 2 _ _ _ DV,cell_of_row w5 B 3 _ _ _ DV⟩;have bP:B < w5.heap.size:=(zg DV).1;have FL:=IP.lt;have HI:=zh (zk4 (IP.alloc (.cells (zaW e).toArray 113)) i hi MT (heap_alloc_new w5 (.cells (zaW e).toArray 113)) (fun h=> by have:=(FL _ h).2;omega) (by rw [World.alloc_size];omega))
  have AT:=CL.alloc (by omega) (.cells (zaW e).toArray 113)
  have DW:=zh AT;have vG:=zh FL;have Uf:=World.alloc_size w5 (.cells (zaW e).toArray 113);have Ln:=zh Uf;unfold zaW at HI DW;clear IP DV CL FL AT Uf;go_wp2_with fail;refine HI.out.mono ?_;rintro r w7 ⟨v',rfl,Gj,hg⟩;rw [<- DY.out] at Gj;have B1:=DW.out.grown hg (by have:=Ln.out;unfold zaW at this;rw [this];omega) (fun j hj=> by have:=(vG.out j hj).1;omega)
  have HF:=zh (zn Gj B1);clear Gj hg B1 HI;go_wp2_with fail
  go_ret3
  exact ⟨_,0,by rw [Hg.out];rfl,by rw [hB];exact zK.base HF.out.1 (by omega),by rw [hB];exact HF.out.2⟩
theorem zjC {t:Tr 0} (ht:zQ w S p t) (hS:∀j,S j->j < w.heap.size) (hn:zH t<=900) (hr:zac (zS t)) (k:Nat):
 χ 162 #[zv p,za2 k] w fun r w'=> ∃v x,r=ρ (.tuple #[v,ν x, .bool (decide (k ∈ zC t))])/\zK zaW 4 113 w' w.heap.size v (zaJ (zS t) k)/\θ w.heap.size w w':=by
 have EE:zC t=(zS t).map (·.1):=rfl;have Ac:zH t=(zS t).length:=rfl;have Eu:(zC t).Pairwise (· < ·):=by rw [EE];exact List.pairwise_map.2 hr
 obtain ⟨q1,q2⟩:=zfC hr (k,0);rw [<- EE] at q1 q2;simp only at q1 q2;have Aq:θ w.heap.size w (w.alloc (.cells #[τ (zj k),ν (zo k),υ (zp k)] 111)):=zr.alloc zl _;have DP:(w.alloc (.cells #[τ (zj k),ν (zo k),υ (zp k)] 111)).heap[w.heap.size]? =some (.cells #[τ (zj k),ν (zo k),υ (zp k)] 111):=heap_alloc_new w _;have Cd:(w.alloc (.cells #[τ (zj k),ν (zo k),υ (zp k)] 111)).heap.size=w.heap.size+1:=World.alloc_size _ _;have RW:=ht.same (zbk.of_below Aq hS);have HE:=zh (zbH RW (fun j hj=> by rw [Cd];have:=hS j hj;omega) (by omega))
 unfold za2 zv at *;go_enter func162,ntmps162;go_wp2_with fail;generalize w.alloc (.cells #[τ (zj k),ν (zo k),υ (zp k)] 111)=w0 at *;refine HE.out.mono ?_;rintro r w1 ⟨v,rfl,hv,Aa⟩;rw [Cd] at hv Aa;have B3:θ w.heap.size w w1:=Aq.trans (Aa.mono (by omega))
 have BB:w1.heap[w.heap.size]? =some (.cells #[τ (zj k),ν (zo k),υ (zp k)] 111):=by rw [Aa.block w.heap.size (by omega)];exact DP
 have RX:=ht.same (zbk.of_below B3 hS);obtain ⟨ka,kc,va,vn,vc,ca,cn,cc,AH,Ec⟩:=RX.box;obtain ⟨-,y1,-,-,GM⟩:=AH.reads;have HB:=zh (zdw ka (zH t) kc (zC t) k w1.drew (show ziq w1.drew _ _ _ from Ec) (by omega) Eu)
 obtain ⟨va',vn',vc',rfl⟩:=hv.form;have Ow:=zh q1;have Ox:=zh q2;have HV:=zh hv;have Fd:=zh B3;have Cq:w1.drew.cell? ⟨p,1,none⟩=some (σ ka (zH t) kc)/\w1.drew.cell? ⟨w.heap.size,0,none⟩=some (τ (zj k))/\w1.drew.cell? ⟨w.heap.size,1,none⟩=some (ν (zo k))/\w1.drew.cell? ⟨w.heap.size,2,none⟩=some (υ (zp k)):=⟨y1,cell_of_row w1 w.heap.size 0 _ _ _ BB,cell_of_row w1 w.heap.size 1 _ _ _ BB,cell_of_row w1 w.heap.size 2 _ _ _ BB⟩;have Bg:∀W,θ w1.drew.heap.size w1.drew W->W.cell? ⟨p,1,none⟩=some (σ ka (zH t) kc)/\W.cell? ⟨w.heap.size,0,none⟩=some (τ (zj k))/\W.cell? ⟨w.heap.size,1,none⟩=some (ν (zo k))/\W.cell? ⟨w.heap.size,2,none⟩=some (υ (zp k)):=fun W hW=>
  ⟨(hW.cell (zb _ _ Cq.1)).trans Cq.1,(hW.cell (zb _ _ Cq.2.1)).trans Cq.2.1,(hW.cell (zb _ _ Cq.2.2.1)).trans Cq.2.2.1,(hW.cell (zb _ _ Cq.2.2.2)).trans Cq.2.2.2⟩
 have B9:=zh Bg;have C6:=B3.size;have MT:(zS t).length<=1000:=by omega
 have Ze:zC t≠ []->(zS t)≠ []:=fun h h2=> h (by rw [EE,h2];rfl)
 unfold za2 at HB;clear ht DP RW HE Aq Aa BB RX AH Ec Eu hv q1 q2 Bg B3 y1 EE hr Ac Cd Ze;generalize hB:w.heap.size=B at *
 by_cases hm:k ∈ zC t
 ·have Cb:decide (k ∈ zC t)=true:=decide_eq_true hm;rw [Cb] at HB;have Hg:=zh Cb;obtain ⟨hi,-,Ad⟩:=Ow.out hm;generalize lbN (zC t) k=i at *;obtain ⟨x,hx⟩:∃x,(zS t)[i]? =some x:=⟨_,ze hi⟩;have DY:=zh Ad;have OD:=zh hx;clear hm Cb Ow Ox Ad hx;generalize zH t=n at *;go_wp2_with fail
  go_region_held_law (fun W'=> W'.cell? ⟨p,1,none⟩=some (σ ka n kc)/\W'.cell? ⟨B,0,none⟩=some (τ (zj k))/\W'.cell? ⟨B,1,none⟩=some (ν (zo k))/\W'.cell? ⟨B,2,none⟩=some (υ (zp k)))
   (first | exact Cq | exact B9.out _ Ag)
   (first | (go_at_call 131;refine HB.out.mono ?_;rintro r w5 ⟨rfl,Ag⟩))
  all_goals
   have CL:θ B w w5:=Fd.out.trans ((show θ w1.heap.size w1 w5 from ⟨Ag.os,Ag.tape,Ag.output,Ag.size,Ag.block⟩).mono C6);have IP:zK zaW 4 113 w5 (B+1) (σ va' vn' vc') (zS t):=HV.out.below (C:=w1.heap.size) ⟨Ag.os,Ag.tape,Ag.output,Ag.size,Ag.block⟩ zl;have HD:=zh (zkD IP i hi MT);rcases IP.cases with ⟨-,h0⟩ | ⟨g,cap,he,Bc,BF,hR⟩
   ·rw [h0] at hi;simp at hi
   cases he
   obtain ⟨g',o',SN,Dn⟩:=(hR.row zN).2 i x OD.out
   cases SN
   have r3:=Dn 3 _ rfl;simp only [Nat.zero_add] at r3;have G8:(i:Int) < ((zS t).length:Int):=by omega
   have IQ:IntKind.i64.wrap ((i:Int)+1)=((i+1:Nat):Int):=by rw [zw _ (by omega)];omega
   have vR:B<=g:=by omega
   have IU:=zh CL;have vS:=CL.size;clear Dn hR IP CL Ag;generalize (zS t).length=rn at *;go_wp2_with fail;refine HD.out.mono ?_;rintro r w7 ⟨v',rfl,Gj,hg⟩;rw [<- DY.out] at Gj;have B1:=IU.out.grown hg (by omega) (fun j hj=> by cases hj;exact vR)
   have HF:=zh (zn (Gj.base (show B<=B+1 by omega)) B1)
   clear Gj hg B1 HD;go_wp2_with fail
   go_ret3
   exact ⟨_,(x.2:Int),by rw [Hg.out];rfl,by rw [hB];exact HF.out.1,by rw [hB];exact HF.out.2⟩
 have Cb:decide (k ∈ zC t)=false:=decide_eq_false hm;rw [Cb] at HB;have Hg:=zh Cb;obtain ⟨hi,-,Ad⟩:=Ox.out hm;generalize lbN (zC t) k=i at *;have DY:=zh Ad;clear hm Cb Ow Ox Ad;generalize zH t=n at *;go_wp2_with fail
 go_region_held_law (fun W'=> W'.cell? ⟨p,1,none⟩=some (σ ka n kc)/\W'.cell? ⟨B,0,none⟩=some (τ (zj k))/\W'.cell? ⟨B,1,none⟩=some (ν (zo k))/\W'.cell? ⟨B,2,none⟩=some (υ (zp k)))
  (first | exact Cq | exact B9.out _ Ag)
  (first | (go_at_call 131;refine HB.out.mono ?_;rintro r w5 ⟨rfl,Ag⟩))
 all_goals
  have CL:θ B w w5:=Fd.out.trans ((show θ w1.heap.size w1 w5 from ⟨Ag.os,Ag.tape,Ag.output,Ag.size,Ag.block⟩).mono C6);have IP:zK zaW 4 113 w5 (B+1) (σ va' vn' vc') (zS t):=HV.out.below (C:=w1.heap.size) ⟨Ag.os,Ag.tape,Ag.output,Ag.size,Ag.block⟩ zl;rw [<- DY.out] at IP;have HF:=zh (zn (IP.base (show B<=B+1 by omega)) CL)
  clear IP CL;go_wp2_with fail
  go_ret3
  exact ⟨_,0,by rw [Hg.out];rfl,by rw [hB];exact HF.out.1,by rw [hB];exact HF.out.2⟩
end
end Go.Proofs.YtaoceecfjlkmdaaGreat
