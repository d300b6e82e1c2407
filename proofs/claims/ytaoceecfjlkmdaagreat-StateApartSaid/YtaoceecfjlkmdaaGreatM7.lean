/- Lemmas of the walks, merged and pressed by press.py. Conditions: those of each theorem. -/
import Derived.Test.YtaoceecfjlkmdaaGreatM6
import Derived.Test.YtaoceecfjlkmdaaGreatM3
set_option maxRecDepth 100000
set_option maxHeartbeats 64000000
set_option linter.all false
namespace Go.Proofs.YtaoceecfjlkmdaaGreat
open Tryz
variable {F F':List Nat} {L L':List Uc} {B b c g k m m' n p pa pf s x:Nat} {D D' Df:Nat→Prop} {om:Option Nat} {e:TypeId} {a0 a3 a4 a5 mv v:Value} {A w w' w1 w2 w3:World}
section
open Go.RowKit
theorem zex {xs:List Value} (h:w.ownsRow B e k v n xs) (hs:∀g,v.ownBlock=some g->w'.heap[g]? =w.heap[g]?):w'.ownsRow B e k v n xs:=by
 refine ⟨h.1, ?_⟩;rcases h.2 with h2 | ⟨g,cap,cur,hv,hg,hh,r⟩
 ·exact .inl h2
 exact .inr ⟨g,cap,cur,hv,hg,(hs g (by rw [hv];rfl)).trans hh,r⟩
theorem zbj.heap (h:zbj w p v mv F) (hp:w'.heap[p]? =w.heap[p]?) (hs:∀g,v.ownBlock=some g->w'.heap[g]? =w.heap[g]?):zbj w' p v mv F:=
 ⟨hp.trans h.1,zex h.2 hs⟩
theorem zbj.row_lt (h:zbj w p v mv F)  (hg:v.ownBlock=some g):g < ↑w:=by
 rcases h.2.2 with ⟨rfl,_⟩ | ⟨g',cap,cur,rfl,_,hh,_⟩
 ·cases hg
 cases hg
 exact (zg hh).1
theorem zbj.plt (h:zbj w p v mv F):p < ↑w:=(zg h.1).1
theorem zbj.apart (h:zbj w p v mv F)   (hm:zbT w m L):m≠p/\v.ownBlock≠some m:=by
 obtain ⟨es,clock,h1,-⟩:=hm;refine ⟨fun e=> ?_,fun e=> ?_⟩
 ·rw [e,h.1] at h1;cases h1
 rcases h.2.2 with ⟨rfl,_⟩ | ⟨g',cap,cur,rfl,_,hh,_⟩
 ·cases e
 cases e
 rw [hh] at h1;cases h1
theorem zD.more {B:World} (h:zD D A B) (hd:∀j,D j->D' j):zD D' A B:=⟨h.os,h.tape,h.output,h.size,fun j hj hn=> h.block j hj (fun e=> hn (hd j e))⟩
def zeJ (w:World) (om:Option Nat) (L:List Uc):Prop:=(om=none/\L= [])\/∃m,om=some m/\zbT w m L
theorem zeJ.look (h:zeJ w om L)  (hs:s < 4294967296):(Instr.lookup 151 (.map om) (ν s) false).run prog w= .ok (ι (zan L s:Nat)) w:=by
 rcases h with ⟨rfl,rfl⟩ | ⟨m,rfl,h⟩
 ·exact zmP hs w
 exact h.look hs
theorem zeJ.heap (h:zeJ w om L) (hs:∀m,om=some m->w'.heap[m]? =w.heap[m]?):zeJ w' om L:=by
 rcases h with h | ⟨m,rfl,h⟩
 ·exact .inl h
 exact .inr ⟨m,rfl,h.heap (hs m rfl)⟩
theorem zeJ.lt (h:zeJ w om L)  (hm:om=some m):m < ↑w:=by
 rcases h with ⟨rfl,-⟩ | ⟨m',rfl,h⟩
 ·cases hm
 cases hm;exact h.lt
structure zbc (w:World) (p:Nat) (F:List Nat) (D:Nat->Prop):Prop where
 has:∃(F0:List Nat) (v:Value) (om:Option Nat) (L:List Uc),F0.Perm F/\zbj w p v (.map om) F0/\zeJ w om L/\(∀j,D j↔j=p\/v.ownBlock=some j\/om=some j)/\∀x,zan L x=if x ∈ F then 1 else 0
 nodup:F.Nodup
 ok:∀x ∈ F,0 < x/\x < 4294967296
theorem zbc.kept (h:zbc w p F D) (hk:zbD D w w'):zbc w' p F D:=by
 obtain ⟨F0,v,om,L,h1,h2,h3,h4,h5⟩:=h.has;exact ⟨⟨F0,v,om,L,h1,h2.heap (hk.block _ ((h4 _).2 (.inl rfl))) (fun g hg=> hk.block _ ((h4 _).2 (.inr (.inl hg)))),h3.heap (fun m hm=> hk.block _ ((h4 _).2 (.inr (.inr hm)))),h4,h5⟩,h.nodup,h.ok⟩
theorem zbc.lt (h:zbc w p F D):∀j,D j->j < ↑w:=by
 obtain ⟨F0,v,om,L,h1,h2,h3,h4,h5⟩:=h.has;intro j hj;rcases (h4 j).1 hj with rfl | hj | hj
 ·exact h2.plt
 ·exact h2.row_lt hj
 exact h3.lt hj
theorem zbj.mapped (h:zbj w p v mv F):
 zbj ((w.alloc (.map #[] 0)).setCell (p 1 ()) (.map (some ↑w))) p v (.map (some ↑w)) F/\zbT ((w.alloc (.map #[] 0)).setCell (p 1 ()) (.map (some ↑w))) ↑w []/\w.grownBy ((w.alloc (.map #[] 0)).setCell (p 1 ()) (.map (some ↑w))) (some p):=by
 have AQ:=h.plt;have Aj:=h.ne;have G2:(w.alloc (.map #[] 0)).heap[p]? =some (.cells #[v,mv] 212):=by rw [Below.heap_alloc _ _ _ AQ];exact h.1
 refine ⟨⟨heap_setCell_same _ p 1 #[v,mv] 212 _ G2,zex h.2 fun g hg=> ?_⟩,(zbT.made w).heap ?_,⟨rfl,rfl,rfl,by rw [World.size_setCell];simp,fun j hj hn=> ?_⟩⟩
 ·rw [heap_setCell_other _ (p 1 ()) g _ (fun e=> Aj (by rw [hg];exact congrArg some e.symm)),Below.heap_alloc _ _ _ (h.row_lt hg)]
 ·rw [heap_setCell_other _ (p 1 ()) ↑w _ (by show ↑w≠p;omega)]
 rw [heap_setCell_other _ (p 1 ()) j _ (fun e=> hn uJ),Below.heap_alloc _ _ _ hj]
theorem zbc.given {F0:List Nat}    
 (hn:F.Nodup) (Fv:∀x ∈ F,0 < x/\x < 4294967296) (Aq:0 < b) (hb:b < 4294967296) (C5:b ∉ F) (TU:F0.Perm F) (hD:∀j,D j↔j=p\/v.ownBlock=some j\/om=some j) (DB:∀j,D j->j < w.heap.size)
 (hL:∀x,zan L x=if x ∈ b::F then 1 else 0) (hm:om=some m\/(om=none/\↑w<=m)) (hM:zbT w2 m L) (hV:zbj w2 p v (.map (some m)) F0) (LU:zD D w w2)
 (hP:F'.Perm (F0++ [b])) (hW:zaI w3 p g c (.map (some m)) F') (hg:v.ownBlock=some g\/↑w2<=g) (Qw:zD (fun j=> j=p\/v.ownBlock=some j) w2 w3):
 ∃D',zbc w3 p (b::F) D'/\zba D w D' w3/\zD D w w3:=by
 have BE:=hV.apart hM;refine ⟨fun j=> j=p\/j=g\/j=m,⟨⟨F',σ (some ↑g) F'.length c,some m,L,hP.trans ((List.perm_append_singleton b F0).trans (TU.cons b)),hW, .inr ⟨m,rfl,hM.heap (Qw.block m hM.lt (by simp only [not_or];exact BE))⟩,fun j=> ?_,hL⟩, ?_, ?_⟩,⟨fun j hj=> ?_,fun j hj=> ?_⟩,LU.trans Qw fun j hj=> .inl ((hD j).2 (by rcases hj with h | h;exact .inl h;exact .inr (.inl h)))⟩
 ·simp only [Value.ownBlock,Option.some.injEq]
  constructor
  ·rintro (h | h | h)
   ·exact .inl h
   ·exact .inr (.inl h.symm)
   exact .inr (.inr h.symm)
  rintro (h | h | h)
  ·exact .inl h
  ·exact .inr (.inl h.symm)
  exact .inr (.inr h.symm)
 ·exact List.nodup_cons.2 ⟨C5,hn⟩
 ·intro x hx;rcases List.mem_cons.1 hx with rfl | hx
  ·exact ⟨Aq,hb⟩
  exact Fv x hx
 ·rcases hj with rfl | rfl | rfl
  ·exact .inl ((hD j).2 (.inl rfl))
  ·rcases hg with h | h
   ·exact .inl ((hD j).2 (.inr (.inl h)))
   have:=LU.size;exact .inr ud
  rcases hm with h | ⟨-,h⟩
  ·exact .inl ((hD j).2 (.inr (.inr h)))
  exact .inr h
 rcases hj with rfl | rfl | rfl
 ·exact (zg hW.1).1
 ·exact hW.glt
 exact zt hM.lt Qw.size
theorem zcs:∀(L:List Uc) (s v x:Nat),zan (zbV L s v) x=if x=s then v else zan L x
 | [],s,v,x=> by
   unfold zbV zan
   by_cases h:s=x
   ·simp [h]
   rw [if_neg h,if_neg (fun e=> h e.symm)]
   rfl
 | q::L,s,v,x=> by
   have ih:=zcs L s v x;unfold zbV
   by_cases h:q.1=s
   ·rw [if_pos h];unfold zan
    by_cases h2:s=x
    ·simp [h2]
    rw [if_neg h2,if_neg (fun e=> h2 e.symm),if_neg (fun e=> h2 (h.symm.trans e))]
   rw [if_neg h];simp only [zan];rw [ih]
   by_cases h2:q.1=x
   ·rw [if_pos h2,if_neg (fun e=> h (h2.trans e)),if_pos h2]
   rw [if_neg h2,if_neg h2]
theorem zgH:∀{L:List Uc} (s x:Nat),(L.map (·.1)).Nodup->zan (zet L s) x=if x=s then 0 else zan L x
 | [],s,x,_=> by simp [zet,zan]
 | q ::L,s,x,hn=> by
   simp only [List.map_cons,List.nodup_cons] at hn;have ih:=zgH (L:=L) s x hn.2;unfold zet
   by_cases h:q.1=s
   ·rw [if_pos h]
    by_cases h2:x=s
    ·rw [if_pos h2];exact zfe fun p hp e=> hn.1 (List.mem_map.2 ⟨p,hp,(e.trans h2).trans h.symm⟩)
    rw [if_neg h2];unfold zan;rw [if_neg (fun e=> h2 (e.symm.trans h))]
    cases L <;> rfl
   rw [if_neg h];simp only [zan];rw [ih]
   by_cases h2:q.1=x
   ·rw [if_pos h2,if_neg (fun e=> h (h2.trans e)),if_pos h2]
   rw [if_neg h2,if_neg h2]
theorem zjX (h:zbc w p F D) (b:Nat) (Aq:0 < b) (hb:b < 4294967296) (C5:b ∉ F) (hF:F.length < 100000):
 χ 123 #[zv p,ν b] w fun e w'=> e=ρ (.bool true)/\∃D',zbc w' p (b::F) D'/\zba D w D' w'/\zD D w w':=by
 have hlt:=h.lt;obtain ⟨F0,v,om,L,h1,h2,h3,h4,h5⟩:=h.has;have hn:=h.nodup;have Fv:=h.ok;have h0:((b:Int)==0)=false:=by rw [beq_eq_false_iff_ne];omega
 have c1:w (p 1 ())=some (.map om):=by simp [World.cell?,h2.1]
 have f1:w.frozen? (p 1 ())=false:=by simp [World.frozen?,h2.1]
 have AQ:=h2.plt;have Dm:=h1.length_eq;have hl:=h3.look hb;rw [h5,if_neg C5] at hl;have hL:∀x,zan (zbV L b 1) x=if x ∈ b::F then 1 else 0:=fun x=> by
  rw [zcs,h5]
  by_cases e:x=b
  ·simp [e]
  simp [e]
 unfold zv;rcases h3 with ⟨rfl,rfl⟩ | ⟨m,rfl,hM⟩
 ·have he:=zjS w;have Tw:=@run_makeMap prog;obtain ⟨QL,L6,NA⟩:=h2.mapped;have f2:(w.alloc (.map #[] 0)).frozen? (p 1 ())=false:=by rw [World.frozen?_of_block (w:=w)];exact f1;exact Below.heap_alloc _ _ _ AQ
  have c2:(w.alloc (.map #[] 0)) (p 1 ())=some (.map none):=by rw [World.cell?_of_block (w:=w)];exact c1;exact Below.heap_alloc _ _ _ AQ
  obtain ⟨w2,Cc,CE,hg,AR⟩:=L6.put (s:=b) (v:=1) hb ud;have Ht:=QL.apart L6;have O0:zbj w2 p v (.map (some ↑w)) F0:=QL.heap (hg.block p QL.plt (fun e=> Ht.1 (Option.some.inj e).symm)) (fun g Ic=> hg.block g (QL.row_lt Ic) (fun e=> Ht.2 (Ic.trans e)));have LU:zD D w w2:=(zD.turn NA ((h4 p).2 (.inl rfl))).trans (zD.turn (D:=fun j=> j=↑w) hg rfl) (fun j hj=> .inr (by rw [hj];exact zl))
  have cA:((w.alloc (.map #[] 0)).setCell (p 1 ()) (.map (some ↑w))) (p 1 ())=some (.map (some ↑w)):=by simp [World.cell?,QL.1]
  rw [World.setCell_alloc_past (w:=w) (.map #[] 0) p 1 (.map (some ↑w)) AQ] at Cc cA;have HP:=zh (zew O0 b ud);have AJ:=zh (fun (w3:World) g c F'=> zbc.given (w3:=w3) (g:=g) (c:=c) (F':=F') hn Fv Aq hb C5 h1 h4 hlt hL (.inr ⟨rfl,zl⟩) CE O0 LU);go_in
  go_wp2_with (at_mapUpdate;refine zab rfl _ _ _ _ rfl Cc ?_)
  refine HP.out.mono ?_;rintro e w3 ⟨rfl,⟨g,c,F',hP,hW,hg⟩,hO⟩;have HH:=zh (AJ.out w3 g c F' hP hW hg hO);go_wp2;go_ret;exact ⟨rfl,HH.out⟩
 have he:=zhM m w;obtain ⟨w2,Cc,CE,hg,AR⟩:=hM.put (s:=b) (v:=1) hb ud;have Ht:=h2.apart hM;have O0:zbj w2 p v (.map (some m)) F0:=h2.heap (hg.block p h2.plt (fun e=> Ht.1 (Option.some.inj e).symm)) (fun g Ic=> hg.block g (h2.row_lt Ic) (fun e=> Ht.2 (Ic.trans e)));have LU:zD D w w2:=zD.turn hg ((h4 m).2 (.inr (.inr rfl)));have HP:=zh (zew O0 b ud);have AJ:=zh (fun (w3:World) g c F'=> zbc.given (w3:=w3) (g:=g) (c:=c) (F':=F') hn Fv Aq hb C5 h1 h4 hlt hL (.inl rfl) CE O0 LU);go_in
 go_wp2_with (at_mapUpdate;refine zab rfl _ _ _ _ rfl Cc ?_)
 refine HP.out.mono ?_;rintro e w3 ⟨rfl,⟨g,c,F',hP,hW,hg⟩,hO⟩;have HH:=zh (AJ.out w3 g c F' hP hW hg hO);go_wp2;go_ret;exact ⟨rfl,HH.out⟩
theorem zbc.made (w:World):zbc (w.alloc (.cells #[σ none 0 0, .map none] 212)) ↑w [] (fun j=> j=↑w):=
 ⟨⟨[],σ none 0 0,none, [],List.Perm.refl _,⟨heap_alloc_new w _,rfl, .inl ⟨rfl,rfl⟩⟩, .inl ⟨rfl,rfl⟩,fun j=> by simp [Value.ownBlock],fun x=> by simp [zan]⟩,List.nodup_nil,uh⟩
def znG:Nat->List Nat
 | 0=> []
 | n+1=> (n+1)::znG n
theorem zg2:∀{n x:Nat},x ∈ znG n↔0 < x/\x<=n
 | 0,x=> by simp [znG];omega
 | n+1,x=> by simp only [znG,List.mem_cons,zg2 (n:=n)];omega
theorem zkp:∀n,(znG n).length=n
 | 0=> rfl
 | n+1=> by simp [znG,zkp n]
theorem ziW (n:Nat) (w:World) (hn:n<=4096):
 χ 77 #[↑n] w fun e w'=> ∃p D,e=ρ (.tuple #[zv p,ι 0])/\zbc w' p (znG n) D/\(∀j,D j->↑w<=j)/\θ w w w':=by
 have Ft:¬((n:Int) < 0):=ud;have Jn:¬((4096:Int) < (n:Int)):=ud;have Rg:=zh (zbc.made w);have Aq:θ w w (w.alloc (.cells #[σ none 0 0, .map none] 212)):=zr.alloc zl _;go_in;go_wp2_with fail
 go_loopw [15] (fun u15 wr=> ∃(i:Nat) (D:Nat->Prop),i<=n/\u15= ι i/\zbc wr ↑w (znG i) D/\(∀j,D j->↑w<=j)/\θ w w wr) (fun u15 _=> n - (intOf u15).toNat)
 case atStart=> exact ⟨0,_,ud,rfl,Rg.out,fun j hj=> by rw [hj];exact zl,Aq⟩
 case round=>
  obtain ⟨i,D,hi,rfl,hF,hD,FO⟩:=hrel
  by_cases hlt:i < n
  ·have hu:=zkp i;have HG:=zh (zjX hF (i+1) ud ud (fun e=> by have:=zg2.1 e;omega) ud)
   have Bb:(i:Int) < (n:Int):=ud;have s1:IntKind.i64.wrap ((i:Int)+1)=((i+1:Nat):Int):=by rw [zw _ ud];omega
   have s2:IntKind.u32.wrap ((i+1:Nat):Int)=((i+1:Nat):Int):=by simp [IntKind.wrap,IntKind.signed,IntKind.bits];omega
   have HD:=zh (zn hF.lt (zn hD FO));unfold zv at HG;go_wp2_with fail;refine HG.out.mono ?_;rintro e w2 ⟨rfl,D2,JA,Cy,A5⟩;have qI:=zh JA;have HR:Hid ((∀j,D2 j->↑w<=j)/\θ w w w2):=zh ⟨fun j hj=> by
        rcases Cy.new j hj with h | h
        ·exact HD.out.2.1 j h
        have:=HD.out.2.2.size;omega,⟨A5.os.trans HD.out.2.2.os,A5.tape.trans HD.out.2.2.tape,A5.output.trans HD.out.2.2.output,zs HD.out.2.2.size A5.size,fun j hj=> (A5.block j (by have:=HD.out.2.2.size;omega) (fun e=> by have:=HD.out.2.1 j e;omega)).trans (HD.out.2.2.block j hj)⟩⟩
   go_wp2_with fail
   go_roundw
   case rel=> exact ⟨i+1,D2,ud,by go_num,qI.out,HR.out.1,HR.out.2⟩
   case measure=> simp [intOf];omega
  obtain rfl:n=i:=ud;have HH:=zh (zn hF (zn hD FO));go_wp2;go_ret2;exact ⟨_,D,rfl,HH.out.1,HH.out.2.1,HH.out.2.2⟩
theorem zbc.taken 
 (h:zbc w p F D) (hx:(x::F').Perm F) (hD:∀j,D j↔j=p\/j=g\/om=some j) (aK:om=some m) (hL:∀y,zan L y=if y ∈ F then 1 else 0) (hW:zaI w2 p g c (.map om) F') (hM:zbT w2 m L) (EK:zbT w3 m (zet L x)) (Qw:w2.grownBy w3 (some m)):
 zbc w3 p (F.erase x) D:=by
 subst aK;have Qd:x ∈ F:=hx.subset (List.mem_cons_self);have BE:=(show zbj w2 p (σ (some ↑g) F'.length c) (.map (some m)) F' from hW).apart hM;have hV:zbj w3 p (σ (some ↑g) F'.length c) (.map (some m)) F':=(show zbj w2 p (σ (some ↑g) F'.length c) (.map (some m)) F' from hW).heap (Qw.block p (zg hW.1).1 (fun e=> BE.1 (Option.some.inj e).symm)) (fun j hj=> Qw.block j (by cases hj;exact hW.glt) (fun e=> BE.2 (hj.trans e)))
 refine ⟨⟨F',σ (some ↑g) F'.length c,some m,zet L x, ?_,hV, .inr ⟨m,rfl,EK⟩,fun j=> ?_,fun y=> ?_⟩,h.nodup.erase x,fun y hy=> h.ok y (List.mem_of_mem_erase hy)⟩
 ·exact ((hx.symm.erase x).trans (by rw [List.erase_cons_head])).symm
 ·rw [hD];simp only [Value.ownBlock,Option.some.injEq]
  constructor
  ·rintro (h | h | h)
   ·exact .inl h
   ·exact .inr (.inl h.symm)
   exact .inr (.inr h)
  rintro (h | h | h)
  ·exact .inl h
  ·exact .inr (.inl h.symm)
  exact .inr (.inr h)
 rw [zgH x y hM.nodup,hL];simp only [h.nodup.mem_erase_iff]
 by_cases e:y=x
 ·simp [e]
 simp [e]
theorem zgU (h:zbc w p F D) (Aj:F≠ []) (hF:F.length < 100000):
 χ 108 #[zv p] w fun e w'=> ∃x:Nat,e=ρ (.tuple #[ν x, .bool true])/\x ∈ F/\zbc w' p (F.erase x) D/\zD D w w':=by
 have HH:=zh h;obtain ⟨F0,v,om,L,h1,h2,h3,h4,h5⟩:=h.has;have Ac:=h1.length_eq;have KL:F0≠ []:=fun e=> Aj (by rw [e] at h1;exact List.nil_perm.1 h1)
 obtain ⟨g,c,rfl,hW⟩:=h2.row KL;obtain ⟨m,rfl,hM⟩:∃m,om=some m/\zbT w m L:=by
  rcases h3 with ⟨rfl,rfl⟩ | h
  ·obtain ⟨x,hx⟩:=List.exists_mem_of_ne_nil _ Aj;have:=h5 x;rw [if_pos hx] at this;simp [zan] at this
  exact h
 have BP:=List.length_pos_iff.2 KL;have c0:=hW.cell;have c1:w (p 1 ())=some (.map (some m)):=by simp [World.cell?,hW.1]
 have z0:((F0.length:Int)==0)=false:=by rw [beq_eq_false_iff_ne];omega
 have z1:¬F0= []:=KL;have HP:=zh (zi0 hW KL ud);have BE:=h2.apart hM;have HK:=zh (zn h1 (zn h4 (zn h5 (zn hM BE))));unfold zv;generalize F0.length=n at *;go_in;go_wp2_with fail;refine HP.out.mono ?_;rintro e w2 ⟨x,F',rfl,hP,O1,hO⟩;obtain ⟨h1,h4,h5,hM,BE⟩:=HK.out;have CE:zbT w2 m L:=hM.heap (hO.block m hM.lt (by
  rintro (e | e)
  ·exact BE.1 e
  exact BE.2 (by rw [e];rfl)))
 have c2:w2 (p 1 ())=some (.map (some m)):=by simp [World.cell?,O1.1]
 have Qd:x ∈ F:=h1.subset (hP.subset List.mem_cons_self);obtain ⟨w3,Pk,EK,AM,Jq⟩:=CE.del (s:=x) (HH.out.ok x Qd).2 4;have hD:∀j,D j↔j=p\/j=g\/some m=some j:=fun j=> by
  rw [h4 j];simp only [Value.ownBlock,Option.some.injEq]
  constructor
  ·rintro (h | h | h)
   ·exact .inl h
   ·exact .inr (.inl h.symm)
   exact .inr (.inr h)
  rintro (h | h | h)
  ·exact .inl h
  ·exact .inr (.inl h.symm)
  exact .inr (.inr h)
 have RN:=zbc.taken HH.out (hP.trans h1) hD rfl h5 O1 CE EK AM;have jF:zD D w w3:=(hO.more fun j hj=> (hD j).2 (hj.elim .inl fun h=> .inr (.inl h))).trans (zD.turn AM ((hD m).2 (.inr (.inr rfl)))) (fun _ h=> .inl h);have AJ:=zh (zn Qd (zn RN jF));have has:=zl0 (x:Int)
 go_wp2_with ((refine zcl rfl _ _ _ _ rfl Pk ?_))
 go_ret2;exact ⟨x,rfl,AJ.out.1,AJ.out.2.1,AJ.out.2.2⟩
end
section
open Go.RowKit
def AB (w:World) (pa:Nat) (a0:Value) (om:Option Nat) (s:Int) (a3 a4 a5:Value):Prop:=w.heap[pa]? =some (.cells #[a0, .map om,↑s,a3,a4,a5] 156)
theorem AB.reads {s:Int}  (h:AB w pa a0 om s a3 a4 a5):
 w pa=some a0/\w (pa 1 ())=some (.map om)/\w (pa 2 ())=some ↑s/\w (pa 3 ())=some a3/\w (pa 4 ())=some a4/\w (pa 5 ())=some a5/\∀j,w.frozen? (pa j ())=false:=by
 unfold AB at h;refine ⟨?_, ?_, ?_, ?_, ?_, ?_,fun j=> ?_⟩ <;> simp [World.cell?,World.frozen?,h]
theorem AB.lt {s:Int}  (h:AB w pa a0 om s a3 a4 a5):pa < ↑w:=(zg h).1
theorem AB.heap {s:Int}  (h:AB w pa a0 om s a3 a4 a5) (hp:w'.heap[pa]? =w.heap[pa]?):AB w' pa a0 om s a3 a4 a5:=hp.trans h
theorem AB.ne {s:Int}  (h:AB w pa a0 om s a3 a4 a5)   (hm:zbT w m L):m≠pa:=by
 obtain ⟨es,clock,h1,-⟩:=hm;intro e;rw [e] at h1;rw [h] at h1
 cases h1
theorem AB.sum {s:Int}  (h:AB w pa a0 om s a3 a4 a5) (s':Int):AB (w.setCell (pa 2 ()) ↑s') pa a0 om s' a3 a4 a5:=
 heap_setCell_same w pa 2 #[a0, .map om,↑s,a3,a4,a5] 156 _ h
theorem AB.map {s:Int}  (h:AB w pa a0 om s a3 a4 a5) (om':Option Nat):AB (w.setCell (pa 1 ()) (.map om')) pa a0 om' s a3 a4 a5:=
 heap_setCell_same w pa 1 #[a0, .map om,↑s,a3,a4,a5] 156 _ h
theorem zg9 {s:Int}  (h:AB w pa a0 om s a3 a4 a5)  (hm:zeJ w om L) (b:Nat) (hb:b < 4294967296):
 χ 145 #[π (some (pa 1 ())),ν b] w fun e w'=> e=ρ (ι (zan L b:Nat))/\w'=w:=by
 obtain ⟨-,c1,-⟩:=h.reads;have hl:=hm.look hb;go_in;go_wp2;go_ret;exact ⟨rfl,rfl⟩
def zis (pa:Nat) (a0:Value) (om:Option Nat) (a3 a4 a5:Value) (L:List Uc) (b:Nat) (w w':World):Prop:=
 ∃m s',(om=some m\/(om=none/\↑w<=m))/\AB w' pa a0 (some m) s' a3 a4 a5/\zbT w' m (zbV L b (zan L b+1))/\zD (fun j=> j=pa\/om=some j) w w'
theorem zis.mk' {s:Int}    (hm:om=some m\/(om=none/\↑w<=m)) (h1:AB w1 pa a0 (some m) s a3 a4 a5) (LZ:zbT w1 m L) (hM:zbT w2 m (zbV L b (zan L b+1))) (hg:w1.grownBy w2 (some m)) (vL:zD (fun j=> j=pa\/om=some j) w w1) (s':Int):
 zis pa a0 om a3 a4 a5 L b w (w2.setCell (pa 2 ()) ↑s'):=by
 have Aj:=h1.ne LZ;have h2:AB w2 pa a0 (some m) s a3 a4 a5:=h1.heap (hg.block pa h1.lt (fun e=> Aj (Option.some.inj e).symm));refine ⟨m,s',hm,h2.sum s',hM.heap (heap_setCell_other w2 (pa 2 ()) m _ Aj),(vL.trans (zD.turn (D:=fun j=> j=m) hg rfl) fun j hj=> ?_).trans (zD.turn (D:=fun j=> j=pa) (zq w2 (pa 2 ()) ↑s') rfl) fun j hj=> .inl (.inl hj)⟩;rw [hj];rcases hm with h | ⟨-,h⟩
 ·exact .inl (.inr h)
 exact .inr h
theorem AB.mapped {s:Int}  (h:AB w pa a0 om s a3 a4 a5):
 AB ((w.alloc (.map #[] 0)).setCell (pa 1 ()) (.map (some ↑w))) pa a0 (some ↑w) s a3 a4 a5/\zbT ((w.alloc (.map #[] 0)).setCell (pa 1 ()) (.map (some ↑w))) ↑w []/\zD (fun j=> j=pa\/om=some j) w ((w.alloc (.map #[] 0)).setCell (pa 1 ()) (.map (some ↑w))):=by
 have AQ:=h.lt;have h1:AB (w.alloc (.map #[] 0)) pa a0 om s a3 a4 a5:=h.heap (Below.heap_alloc _ _ _ AQ);refine ⟨h1.map _,(zbT.made w).heap (heap_setCell_other _ (pa 1 ()) ↑w _ (by show ↑w≠pa;omega)),⟨rfl,rfl,rfl,by rw [World.size_setCell];simp,fun j hj hn=> ?_⟩⟩
 rw [heap_setCell_other _ (pa 1 ()) j _ (fun e=> hn (.inl e)),Below.heap_alloc _ _ _ hj]
theorem zeB {s:Int}  (h:AB w pa a0 om s a3 a4 a5)  (hm:zeJ w om L) (b:Nat) (Aq:0 < b) (hb:b < 4294967296) (hc:zan L b < 1000000):
 χ 109 #[π (some (pa 1 ())),ν b] w fun e w'=> (∃v,e=ρ v)/\zis pa a0 om a3 a4 a5 L b w w':=by
 obtain ⟨-,c1,c2,-,-,-,fz⟩:=h.reads;have f1:=fz 1;have f2:=fz 2;have AQ:=h.lt;have h0:((b:Int)==0)=false:=by rw [beq_eq_false_iff_ne];omega
 have sw:IntKind.i64.wrap ((zan L b:Nat)+1:Int)=((zan L b+1:Nat):Int):=by rw [zw _ ud];omega
 rcases hm with ⟨rfl,rfl⟩ | ⟨m,rfl,hm⟩
 ·have he:=zjS w;have Tw:=@run_makeMap prog;obtain ⟨hA,L6,hO⟩:=h.mapped;have g2:(w.alloc (.map #[] 0)).frozen? (pa 1 ())=false:=by rw [World.frozen?_of_block (w:=w)];exact f1;exact Below.heap_alloc _ _ _ AQ
  have d2:(w.alloc (.map #[] 0)) (pa 1 ())=some (.map none):=by rw [World.cell?_of_block (w:=w)];exact c1;exact Below.heap_alloc _ _ _ AQ
  have ai:=L6.look hb;have hr:=hA.reads;obtain ⟨w2,Cc,CE,hg,AR⟩:=L6.put (s:=b) (v:=zan [] b+1) hb ud;have I5:=hA.heap (hg.block pa hA.lt (fun e=> hA.ne L6 (Option.some.inj e).symm));obtain ⟨-,e1,e2,-,-,-,ez⟩:=I5.reads;have ef:=ez 2;have On:=zh CE;have AJ:=zh (fun s'=> zis.mk' (.inr ⟨rfl,zl⟩) hA L6 CE hg hO s');obtain ⟨cA,-⟩:((w.alloc (.map #[] 0)).setCell (pa 1 ()) (.map (some ↑w))) (pa 1 ())=some (.map (some ↑w))/\True:=⟨hr.2.1,trivial⟩;rw [World.setCell_alloc_past (w:=w) (.map #[] 0) pa 1 (.map (some ↑w)) AQ] at Cc cA ai;have Jl:zbT (w2.setCell (pa 2 ()) (ι (wrap64 (s+1)))) ↑w (zbV [] b (zan [] b+1)):=CE.heap (heap_setCell_other w2 (pa 2 ()) ↑w _ (by show ↑w≠pa;omega))
  have QS:=Jl.look hb;go_in
  go_wp2_with (at_mapUpdate;refine zab rfl _ _ _ _ rfl Cc ?_)
  go_ret;exact ⟨⟨_,rfl⟩,AJ.out _⟩
 have he:=zhM m w;have hl:=hm.look hb;obtain ⟨w2,Cc,CE,hg,AR⟩:=hm.put (s:=b) (v:=zan L b+1) hb ud;have I5:=h.heap (hg.block pa h.lt (fun e=> h.ne hm (Option.some.inj e).symm));obtain ⟨-,e1,e2,-,-,-,ez⟩:=I5.reads;have ef:=ez 2;have AJ:=zh (fun s'=> zis.mk' (.inl rfl) h hm CE hg (zD.refl _ w) s');have Jl:zbT (w2.setCell (pa 2 ()) (ι (wrap64 (s+1)))) m (zbV L b (zan L b+1)):=CE.heap (heap_setCell_other w2 (pa 2 ()) m _ (h.ne hm));have QS:=Jl.look hb;generalize zan L b=n at *;go_in
 go_wp2_with (at_mapUpdate;refine zab rfl _ _ _ _ rfl Cc ?_)
 go_ret;exact ⟨⟨_,rfl⟩,AJ.out _⟩
def zdb (pa:Nat) (a0:Value) (m:Nat) (a3 a4 a5:Value) (L':List Uc) (w w':World):Prop:=
 ∃s',AB w' pa a0 (some m) s' a3 a4 a5/\zbT w' m L'/\zD (fun j=> j=pa\/j=m) w w'
theorem zhb {s:Int}  (h:AB w pa a0 (some m) s a3 a4 a5)  (hm:zbT w m L) (b n:Nat) (hb:b < 4294967296) (hc:zan L b=n+2) (hn:n < 1000000):
 χ 165 #[π (some (pa 1 ())),ν b] w fun e w'=> e=ρ (.tuple #[ι ((n+1:Nat)), .bool true])/\zdb pa a0 m a3 a4 a5 (zbV L b (n+1)) w w':=by
 obtain ⟨-,c1,c2,-,-,-,fz⟩:=h.reads;have f2:=fz 2;have hl:=hm.look hb;have Aj:=h.ne hm;rw [hc] at hl;obtain ⟨w2,Cc,CE,hg,AR⟩:=hm.put (s:=b) (v:=n+1) hb ud;have I5:=h.heap (hg.block pa h.lt (fun e=> Aj (Option.some.inj e).symm));obtain ⟨-,e1,e2,-,-,-,ez⟩:=I5.reads;have ef:=ez 2;have Jl:zbT (w2.setCell (pa 2 ()) (ι (wrap64 (s - 1)))) m (zbV L b (n+1)):=CE.heap (heap_setCell_other w2 (pa 2 ()) m _ Aj);have QS:=Jl.look hb;rw [zcs,if_pos rfl] at QS;have HF:=zh (show zdb pa a0 m a3 a4 a5 (zbV L b (n+1)) w (w2.setCell (pa 2 ()) (ι (wrap64 (s - 1)))) from ⟨_,I5.sum _,Jl,(zD.turn hg (.inr rfl)).trans (zD.turn (D:=fun j=> j=pa) (zq w2 (pa 2 ()) (ι (wrap64 (s - 1)))) rfl) fun j hj=> .inl (.inl hj)⟩);have z0:(((n+2:Nat):Int)==0)=false:=by rw [beq_eq_false_iff_ne];omega
 have s1:IntKind.i64.wrap (((n+2:Nat):Int) - 1)=((n+1:Nat):Int):=by rw [zw _ ud];omega
 have z1:(0:Int) < ((n+1:Nat):Int):=ud;obtain ⟨x,hx⟩:∃x,x=n+1:=⟨_,rfl⟩;obtain ⟨y,hy⟩:∃y,y=n+2:=⟨_,rfl⟩;rw [<- hx] at s1 z1 Cc QS HF ⊢;rw [<- hy] at hl z0 s1;clear h hm CE hg AR I5 ez fz Jl Aj hc hx hy;go_in
 go_wp2_with (at_mapUpdate;refine zab rfl _ _ _ _ rfl Cc ?_)
 go_ret2;exact ⟨rfl,HF.out⟩
theorem zjO:∀{L:List Uc} {b v:Nat},0 < zan L b->zet (zbV L b v) b=zet L b
 | [],b,v,h=> by simp [zan] at h
 | q::L,b,v,h=> by
   unfold zbV
   by_cases e:q.1=b
   ·rw [if_pos e];simp [zet,e]
   rw [if_neg e];unfold zan at h;rw [if_neg e] at h;simp only [zet];rw [if_neg e,if_neg e,zjO h]
theorem zha {s:Int}  (h:AB w pa a0 (some m) s a3 a4 a5)  (hm:zbT w m L) (b:Nat) (hb:b < 4294967296) (hc:zan L b=1):
 χ 165 #[π (some (pa 1 ())),ν b] w fun e w'=> e=ρ (.tuple #[ι 0, .bool true])/\zdb pa a0 m a3 a4 a5 (zet L b) w w':=by
 obtain ⟨-,c1,c2,-,-,-,fz⟩:=h.reads;have f2:=fz 2;have hl:=hm.look hb;have Aj:=h.ne hm;rw [hc] at hl;obtain ⟨w2,Cc,CE,hg,AR⟩:=hm.put (s:=b) (v:=0) hb ud;have I5:=h.heap (hg.block pa h.lt (fun e=> Aj (Option.some.inj e).symm));obtain ⟨-,e1,e2,-,-,-,ez⟩:=I5.reads;have ef:=ez 2;have Jl:zbT (w2.setCell (pa 2 ()) (ι (wrap64 (s - 1)))) m (zbV L b 0):=CE.heap (heap_setCell_other w2 (pa 2 ()) m _ Aj);have OI:=I5.sum (wrap64 (s - 1));have QS:=Jl.look hb;rw [zcs,if_pos rfl] at QS;obtain ⟨w3,Pk,EK,AM,Jq⟩:=Jl.del (s:=b) hb 4;rw [zjO ud] at EK;have Z8:=OI.heap (AM.block pa OI.lt (fun e=> Aj (Option.some.inj e).symm));have HF:=zh (show zdb pa a0 m a3 a4 a5 (zet L b) w w3 from ⟨_,Z8,EK,((zD.turn hg (.inr rfl)).trans (zD.turn (D:=fun j=> j=pa) (zq w2 (pa 2 ()) (ι (wrap64 (s - 1)))) rfl) fun j hj=> .inl (.inl hj)).trans (zD.turn (D:=fun j=> j=m) AM rfl) fun j hj=> .inl (.inr hj)⟩);have s1:IntKind.i64.wrap (((1:Nat):Int) - 1)=((0:Nat):Int):=by rw [zw _ ud];omega
 go_in
 go_wp2_with (first | (at_mapUpdate;refine zab rfl _ _ _ _ rfl Cc ?_) | (refine zcl rfl _ _ _ _ rfl Pk ?_))
 go_ret2;exact ⟨rfl,HF.out⟩
end
section
open Go.RowKit
structure zX (w:World) (pa:Nat) (F:List Nat) (L:List Uc) (n:Nat) (D:Nat->Prop):Prop where
 has:∃(pf:Nat) (om:Option Nat) (s:Int) (m:Nat) (Df:Nat->Prop),AB w pa (zv pf) om s (.map (some m)) (σ none 0 0) ↑n/\zbc w pf F Df/\zeJ w om L/\zbT w m []/\(∀j,D j↔j=pa\/Df j\/om=some j\/j=m)/\¬Df pa/\¬Df m/\∀j,om=some j->¬Df j/\j≠m
 pos:∀p ∈ L,0 < p.2
theorem zX.kept (h:zX w pa F L n D) (hk:zbD D w w'):zX w' pa F L n D:=by
 obtain ⟨pf,om,s,m,Df,h1,h2,h3,h4,h5,h6,h7,h8⟩:=h.has;exact ⟨⟨pf,om,s,m,Df,h1.heap (hk.block _ ((h5 _).2 (.inl rfl))),h2.kept (hk.less fun j hj=> (h5 j).2 (.inr (.inl hj))),h3.heap (fun j hj=> hk.block _ ((h5 j).2 (.inr (.inr (.inl hj))))),h4.heap (hk.block _ ((h5 m).2 (.inr (.inr (.inr rfl))))),h5,h6,h7,h8⟩,h.pos⟩
theorem zX.lt (h:zX w pa F L n D):∀j,D j->j < ↑w:=by
 obtain ⟨pf,om,s,m,Df,h1,h2,h3,h4,h5,h6,h7,h8⟩:=h.has;intro j hj;rcases (h5 j).1 hj with rfl | hj | hj | rfl
 ·exact h1.lt
 ·exact h2.lt j hj
 ·exact h3.lt hj
 exact h4.lt
theorem zX.nodup (h:zX w pa F L n D):(L.map (·.1)).Nodup:=by
 obtain ⟨pf,om,s,m,Df,h1,h2,h3,h4,h5,h6,h7,h8⟩:=h.has;rcases h3 with ⟨-,rfl⟩ | ⟨m',-,h⟩
 ·simp
 exact h.nodup
theorem zX.fnodup (h:zX w pa F L n D):F.Nodup:=by
 obtain ⟨pf,om,s,m,Df,h1,h2,h3,h4,h5,h6,h7,h8⟩:=h.has;exact h2.nodup
theorem zjk {v:Nat} (h:∀p ∈ L,0 < p.2) (hv:0 < v):∀p ∈ zbV L b v,0 < p.2:=by
 induction L with
 | nil=>
   intro p hp;simp only [zbV,List.mem_singleton] at hp;rw [hp];exact hv
 | cons q L ih=>
   intro p hp;unfold zbV at hp
   by_cases e:q.1=b
   ·rw [if_pos e] at hp;rcases List.mem_cons.1 hp with rfl | hp
    ·exact hv
    exact h p (List.mem_cons_of_mem _ hp)
   rw [if_neg e] at hp;rcases List.mem_cons.1 hp with rfl | hp
   ·exact h _ List.mem_cons_self
   exact ih (fun p hp=> h p (List.mem_cons_of_mem _ hp)) p hp
theorem zpw (h:∀p ∈ L,0 < p.2):∀p ∈ zet L b,0 < p.2:=by
 induction L with
 | nil=> intro p hp;cases hp
 | cons q L ih=>
   intro p hp;unfold zet at hp
   by_cases e:q.1=b
   ·rw [if_pos e] at hp;exact h p (List.mem_cons_of_mem _ hp)
   rw [if_neg e] at hp;rcases List.mem_cons.1 hp with rfl | hp
   ·exact h _ List.mem_cons_self
   exact ih (fun p hp=> h p (List.mem_cons_of_mem _ hp)) p hp
theorem zX.freed {Df':Nat->Prop}  {s:Int} 
 (h1:AB w pa (zv pf) om s (.map (some m)) (σ none 0 0) ↑n) (hf:zbc w' pf F' Df') (h3:zeJ w om L) (h4:zbT w m []) (h5:∀j,D j↔j=pa\/Df j\/om=some j\/j=m) (h6:¬Df pa) (h7:¬Df m) (h8:∀j,om=some j->¬Df j/\j≠m)
 (hp:∀p ∈ L,0 < p.2) (hg:zba Df w Df' w') (ho:zD Df w w'):∃D',zX w' pa F' L n D'/\zba D w D' w'/\zD D w w'/\∀j,D' j↔j=pa\/Df' j\/om=some j\/j=m:=by
 have AQ:=h1.lt;have FW:=h4.lt;have MJ:∀j,om=some j->j < ↑w:=fun j hj=> h3.lt hj;refine ⟨fun j=> j=pa\/Df' j\/om=some j\/j=m,⟨⟨pf,om,s,m,Df',h1.heap (ho.block pa AQ h6),hf,h3.heap (fun j hj=> ho.block j (MJ j hj) (h8 j hj).1),h4.heap (ho.block m FW h7),fun j=> Iff.rfl, ?_, ?_, ?_⟩,hp⟩,⟨fun j hj=> ?_,fun j hj=> ?_⟩,ho.more fun j hj=> (h5 j).2 (.inr (.inl hj)),fun j=> Iff.rfl⟩
 ·intro e;rcases hg.new pa e with h | h
  ·exact h6 h
  omega
 ·intro e;rcases hg.new m e with h | h
  ·exact h7 h
  omega
 ·intro j hj;refine ⟨fun e=> ?_,(h8 j hj).2⟩;rcases hg.new j e with h | h
  ·exact (h8 j hj).1 h
  have:=MJ j hj;omega
 ·rcases hj with rfl | hj | hj | rfl
  ·exact .inl ((h5 _).2 (.inl rfl))
  ·rcases hg.new j hj with h | h
   ·exact .inl ((h5 _).2 (.inr (.inl h)))
   exact .inr h
  ·exact .inl ((h5 _).2 (.inr (.inr (.inl hj))))
  exact .inl ((h5 _).2 (.inr (.inr (.inr rfl))))
 rcases hj with rfl | hj | hj | rfl
 ·exact zt AQ ho.size
 ·exact hg.lt j hj
 ·exact zt (MJ j hj) ho.size
 exact zt FW ho.size
theorem zX.tabled {s:Int} 
 (h1:AB w pa (zv pf) om s (.map (some m)) (σ none 0 0) ↑n) (hf:zbc w pf F Df) (h4:zbT w m []) (h5:∀j,D j↔j=pa\/Df j\/om=some j\/j=m) (h6:¬Df pa) (h7:¬Df m) (h8:∀j,om=some j->¬Df j/\j≠m)
 (hp:∀p ∈ L',0 < p.2) (Lu:om=some m'\/(om=none/\↑w<=m')) {s':Int} (G2:AB w' pa (zv pf) (some m') s' (.map (some m)) (σ none 0 0) ↑n) (RG:zbT w' m' L') (ho:zD (fun j=> j=pa\/om=some j) w w'):
 ∃D',zX w' pa F L' n D'/\zba D w D' w'/\zD D w w':=by
 have FW:=h4.lt;have EP:=hf.lt;have AQ:=h1.lt;have YH:m≠pa:=h1.ne h4;have hm'f:¬Df m'/\m'≠m:=by
  rcases Lu with h | ⟨-,h⟩
  ·exact h8 m' h
  exact ⟨fun e=> by have:=EP m' e;omega,ud⟩
 have vU:zbc w' pf F Df:=hf.kept (ho.kept EP fun j hj e=> by
  rcases e with e | e
  ·rw [e] at hj;exact h6 hj
  exact (h8 j e).1 hj)
 refine ⟨fun j=> j=pa\/Df j\/some m'=some j\/j=m,⟨⟨pf,some m',s',m,Df,G2,vU, .inr ⟨m',rfl,RG⟩,h4.heap (ho.block m FW fun e=> ?_),fun j=> Iff.rfl,h6,h7,fun j hj=> by cases hj;exact hm'f⟩,hp⟩,⟨fun j hj=> ?_,fun j hj=> ?_⟩,ho.more fun j hj=> ?_⟩
 ·rcases e with e | e
  ·exact YH e
  exact (h8 m e).2 rfl
 ·rcases hj with rfl | hj | hj | rfl
  ·exact .inl ((h5 _).2 (.inl rfl))
  ·exact .inl ((h5 _).2 (.inr (.inl hj)))
  ·cases hj
   rcases Lu with h | ⟨-,h⟩
   ·exact .inl ((h5 _).2 (.inr (.inr (.inl h))))
   exact .inr h
  exact .inl ((h5 _).2 (.inr (.inr (.inr rfl))))
 ·rcases hj with rfl | hj | hj | rfl
  ·exact zt AQ ho.size
  ·exact zt (EP j hj) ho.size
  ·cases hj;exact RG.lt
  exact zt FW ho.size
 rcases hj with hj | hj
 ·exact (h5 j).2 (.inl hj)
 exact (h5 j).2 (.inr (.inr (.inl hj)))
theorem zhs (n:Nat) (w:World) (hn:n<=4096):
 χ 36 #[ι n] w fun e w'=> ∃pa D,e=ρ (.tuple #[zv pa,ι 0])/\zX w' pa (znG n) [] n D/\(∀j,D j->w.heap.size<=j)/\θ w.heap.size w w':=by
 have HN:=zh (ziW n w hn);have Tw:=@run_makeMap prog;go_enter func36,ntmps36;go_wp2_with fail;refine HN.out.mono ?_;rintro e w2 ⟨p,Df,rfl,hF,hD,Ae⟩;have HH:=zh (zn hF (zn hD Ae));unfold zv;clear hF hD Ae;go_wp2_with fail;go_ret2;obtain ⟨hF,hD,Ae⟩:=HH.out;have C6:(w2.alloc (.map #[] 0)).heap.size=w2.heap.size+1:=by simp
 have hx:=heap_alloc_new (w2.alloc (.map #[] 0)) (.cells #[π (some ⟨p,0,none⟩), .map none,ι 0, .map (some w2.heap.size),σ none 0 0,ι n] 156);rw [C6] at hx;have Ar:θ w2.heap.size w2 ((w2.alloc (.map #[] 0)).alloc (.cells #[π (some ⟨p,0,none⟩), .map none,ι 0, .map (some w2.heap.size),σ none 0 0,ι n] 156)):=(zr.alloc zl _).alloc (by omega) _
 refine ⟨w2.heap.size+1,fun j=> j=w2.heap.size+1\/Df j\/none=some j\/j=w2.heap.size,rfl,⟨⟨p,none,0,w2.heap.size,Df,hx,hF.kept (zbD.of_below Ar hF.lt), .inl ⟨rfl,rfl⟩,(zbT.made w2).heap (Below.heap_alloc _ _ _ (by omega)),fun j=> Iff.rfl,fun e=> ?_,fun e=> ?_,by simp⟩,by simp⟩,fun j hj=> ?_,Ae.trans (Ar.mono Ae.size)⟩
 ·have:=hF.lt _ e;omega
 ·have:=hF.lt _ e;omega
 have:=Ae.size;rcases hj with rfl | hj | hj | rfl
 ·omega
 ·exact hD j hj
 ·cases hj
 omega
theorem zfO (h:zX w pa F L n D) (Aj:F≠ []) (hF:F.length < 100000) (hc:∀x ∈ F,zan L x < 1000000):
 χ 66 #[zv pa] w fun e w'=> ∃(x:Nat) (D':Nat->Prop),e=ρ (.tuple #[ν x,ι 0])/\x ∈ F/\zX w' pa (F.erase x) (zbV L x (zan L x+1)) n D'/\zba D w D' w'/\zD D w w':=by
 have BP:=h.pos;obtain ⟨pf,om,s,m,Df,h1,h2,h3,h4,h5,h6,h7,h8⟩:=h.has;obtain ⟨c0,-⟩:=h1.reads;have HT:=zh (zgU h2 Aj hF);have HK:=zh (zn h1 (zn h2 (zn h3 (zn h4 (zn h5 (zn h6 (zn h7 h8)))))));unfold zv at c0 HT ⊢;go_in;go_wp2_with fail;refine HT.out.mono ?_;rintro e w2 ⟨x,rfl,hx,JA,A5⟩;obtain ⟨h1,h2,h3,h4,h5,h6,h7,h8⟩:=HK.out;have Fv:=h2.ok x hx;have G2:=h1.heap (A5.block pa h1.lt h6);have RG:=h3.heap (w':=w2) (fun j hj=> A5.block j (h3.lt hj) (h8 j hj).1);have Z5:=h4.heap (A5.block m h4.lt h7);have HH:=zh (zeB G2 RG x Fv.1 Fv.2 (hc x hx));have Cy:zba Df w Df w2:=zba.refl h2.lt A5.size;have AJ:=zh (zn hx (fun w3 (hr:zis pa (zv pf) om (.map (some m)) (σ none 0 0) ↑n L x w2 w3)=> show ∃D',zX w3 pa (F.erase x) (zbV L x (zan L x+1)) n D'/\zba D w D' w3/\zD D w w3 by
  obtain ⟨m',s',Lu,OH,JB,Kd⟩:=hr;have DB:∀j,D j->j < ↑w:=fun j hj=> by
   rcases (h5 j).1 hj with rfl | hj | hj | rfl
   ·exact h1.lt
   ·exact h2.lt j hj
   ·exact h3.lt hj
   exact h4.lt
  obtain ⟨D',vN,yN,aI⟩:=zX.tabled G2 JA Z5 h5 h6 h7 h8 (zjk BP ud) Lu OH JB Kd;exact ⟨D',vN,(zba.refl DB A5.size).trans yN A5.size,(A5.more fun j hj=> (h5 j).2 (.inr (.inl hj))).trans aI fun j hj=> .inl hj⟩))
 go_wp2_with fail;refine HH.out.mono ?_;rintro e w3 ⟨⟨v,rfl⟩,hr⟩;have HR:=zh (AJ.out.2 w3 hr);go_wp2;go_ret2;obtain ⟨D',q1,q2,q3⟩:=HR.out;exact ⟨x,D',rfl,AJ.out.1,q1,q2,q3⟩
theorem zgz (h:zX w pa F L n D) (b:Nat) (Aq:0 < b) (hb:b < 4294967296) (Em:0 < zan L b) (hc:zan L b < 1000000):
 χ 107 #[zv pa,ν b] w fun e w'=> ∃(D':Nat->Prop),e=ρ (ι 0)/\zX w' pa F (zbV L b (zan L b+1)) n D'/\zba D w D' w'/\zD D w w':=by
 have BP:=h.pos;obtain ⟨pf,om,s,m,Df,h1,h2,h3,h4,h5,h6,h7,h8⟩:=h.has;obtain ⟨c0,-⟩:=h1.reads;have HC:=zh (zg9 h1 h3 b hb);have HT:=zh (zeB h1 h3 b Aq hb hc);have AJ:=zh (fun w3 (hr:zis pa (zv pf) om (.map (some m)) (σ none 0 0) ↑n L b w w3)=> show ∃D',zX w3 pa F (zbV L b (zan L b+1)) n D'/\zba D w D' w3/\zD D w w3 by
  obtain ⟨m',s',Lu,OH,JB,Kd⟩:=hr;exact zX.tabled h1 h2 h4 h5 h6 h7 h8 (zjk BP ud) Lu OH JB Kd)
 have z0:((zan L b:Nat):Int)≠0:=ud;have z1:(((zan L b:Nat):Int)==0)=false:=by rw [beq_eq_false_iff_ne];exact z0
 unfold zv at HT ⊢;generalize zan L b=c at *;go_in;go_wp2_with fail;refine HC.out.mono ?_;rintro e w2 ⟨rfl,rfl⟩;go_wp2_with fail;refine HT.out.mono ?_;rintro e w3 ⟨⟨v,rfl⟩,hr⟩;have HR:=zh (AJ.out w3 hr);go_wp2;go_ret;obtain ⟨D',q1,q2,q3⟩:=HR.out;exact ⟨D',rfl,q1,q2,q3⟩
theorem zfN (h:zX w pa F L n D) (b c:Nat) (hb:b < 4294967296) (hc:zan L b=c+2) (Bd:c < 1000000):
 χ 118 #[zv pa,ν b] w fun e w'=> ∃(D':Nat->Prop),e=ρ (ι 0)/\zX w' pa F (zbV L b (c+1)) n D'/\zba D w D' w'/\zD D w w':=by
 have BP:=h.pos;obtain ⟨pf,om,s,m,Df,h1,h2,h3,h4,h5,h6,h7,h8⟩:=h.has;obtain ⟨m',rfl,hM⟩:∃m',om=some m'/\zbT w m' L:=by
  rcases h3 with ⟨rfl,rfl⟩ | h
  ·simp [zan] at hc
  exact h
 have HC:=zh (zhb h1 hM b c hb hc Bd);have AJ:=zh (fun w3 (hr:zdb pa (zv pf) m' (.map (some m)) (σ none 0 0) ↑n (zbV L b (c+1)) w w3)=> show ∃D',zX w3 pa F (zbV L b (c+1)) n D'/\zba D w D' w3/\zD D w w3 by
  obtain ⟨s',OH,JB,Kd⟩:=hr;exact zX.tabled h1 h2 h4 h5 h6 h7 h8 (zjk BP ud) (.inl rfl) OH JB (Kd.more fun j hj=> hj.elim .inl fun h=> .inr ubm))
 have z1:(0:Int) < ((c+1:Nat):Int):=ud;unfold zv at HC ⊢;obtain ⟨x,hx⟩:∃x,x=c+1:=⟨_,rfl⟩;rw [<- hx] at HC AJ z1 ⊢;go_in;go_wp2_with fail;refine HC.out.mono ?_;rintro e w3 ⟨rfl,hr⟩;have HR:=zh (AJ.out w3 hr);go_wp2;go_ret;obtain ⟨D',q1,q2,q3⟩:=HR.out;exact ⟨D',rfl,q1,q2,q3⟩
theorem zfM (h:zX w pa F L n D) (b:Nat) (Aq:0 < b) (hb:b < 4294967296) (hc:zan L b=1) (XK:b ∉ F) (hF:F.length < 100000):
 χ 118 #[zv pa,ν b] w fun e w'=> ∃(D':Nat->Prop),e=ρ (ι 0)/\zX w' pa (b::F) (zet L b) n D'/\zba D w D' w'/\zD D w w':=by
 have BP:=h.pos;have DB:=h.lt;obtain ⟨pf,om,s,m,Df,h1,h2,h3,h4,h5,h6,h7,h8⟩:=h.has;obtain ⟨m',rfl,hM⟩:∃m',om=some m'/\zbT w m' L:=by
  rcases h3 with ⟨rfl,rfl⟩ | h
  ·simp [zan] at hc
  exact h
 have HC:=zh (zha h1 hM b hb hc);have HK:=zh (fun w3 (hr:zdb pa (zv pf) m' (.map (some m)) (σ none 0 0) ↑n (zet L b) w w3)=> show ∃D',zX w3 pa F (zet L b) n D'/\zba D w D' w3/\zD D w w3 by
  obtain ⟨s',OH,JB,Kd⟩:=hr;exact zX.tabled h1 h2 h4 h5 h6 h7 h8 (zpw BP) (.inl rfl) OH JB (Kd.more fun j hj=> hj.elim .inl fun h=> .inr ubm))
 unfold zv at HC ⊢;go_in;go_wp2_with fail;refine HC.out.mono ?_;rintro e w3 ⟨rfl,hr⟩;obtain ⟨D1,WX,Cf,Bo⟩:=HK.out w3 hr;have C6:=Bo.size;obtain ⟨pf1,om1,s1,m1,Df1,h1,h2,h3,h4,h5,h6,h7,h8⟩:=WX.has;obtain ⟨c0,-,-,c3,-⟩:=h1.reads;have hl:=h4.look hb;have Dm:zan [] b=0:=rfl;rw [Dm] at hl;have HG:=zh (zjX h2 b Aq hb XK hF);have AJ:=zh (fun w4 Df' (hf:zbc w4 pf1 (b::F) Df') (hg:zba Df1 w3 Df' w4) (ho:zD Df1 w3 w4)=> show ∃D',zX w4 pa (b::F) (zet L b) n D'/\zba D w D' w4/\zD D w w4 by
  obtain ⟨D2,q1,q2,q3,-⟩:=zX.freed h1 hf h3 h4 h5 h6 h7 h8 WX.pos hg ho;exact ⟨D2,q1,Cf.trans q2 C6,Bo.trans q3 fun j hj=> by
   rcases Cf.new j hj with h | h
   ·exact .inl h
   exact .inr h⟩)
 unfold zv at c0 HG;go_wp2_with fail;refine HG.out.mono ?_;rintro e w4 ⟨rfl,Df',hf,hg,ho⟩;have HR:=zh (AJ.out w4 Df' hf hg ho);go_wp2;go_ret;obtain ⟨D',q1,q2,q3⟩:=HR.out;exact ⟨D',rfl,q1,q2,q3⟩
end
end Go.Proofs.YtaoceecfjlkmdaaGreat
