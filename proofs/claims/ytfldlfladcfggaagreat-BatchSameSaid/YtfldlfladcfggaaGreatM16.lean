/- Lemmas of the walks, merged and pressed by press.py. Conditions: those of each theorem. -/
import Derived.Test.YtfldlfladcfggaaGreatM15
import Derived.Laws.Rows
import Derived.Test.YtfldlfladcfggaaGreatM2
import Derived.Deep.RegionHeldLaw
set_option maxRecDepth 100000
set_option maxHeartbeats 64000000
set_option linter.all false
namespace Go.Proofs.YtfldlfladcfggaaGreat
section
open Go.RowKit
def AB (w:World) (pa:Nat) (a0:Value) (om:Option Nat) (s:Int) (a3 a4 a5:Value):Prop:=w.heap[pa]? =some (.cells #[a0, .map om, .int .i64 s,a3,a4,a5] 117 (0,0))
theorem AB.reads {w:World} {pa:Nat} {a0:Value} {om:Option Nat} {s:Int} {a3 a4 a5:Value} (h:AB w pa a0 om s a3 a4 a5):
 w.cell? ⟨pa,0,none⟩=some a0∧w.cell? ⟨pa,1,none⟩=some (.map om)∧w.cell? ⟨pa,2,none⟩=some (.int .i64 s)∧w.cell? ⟨pa,3,none⟩=some a3∧w.cell? ⟨pa,4,none⟩=some a4∧w.cell? ⟨pa,5,none⟩=some a5∧∀j,w.frozen? ⟨pa,j,none⟩=false:=by
 unfold AB at h;refine ⟨?_, ?_, ?_, ?_, ?_, ?_,fun j=> ?_⟩ <;> simp [World.cell?,World.frozen?,h]
theorem AB.lt {w:World} {pa:Nat} {a0:Value} {om:Option Nat} {s:Int} {a3 a4 a5:Value} (h:AB w pa a0 om s a3 a4 a5):pa < w.heap.size:=(zg h).1
theorem AB.heap {w w':World} {pa:Nat} {a0:Value} {om:Option Nat} {s:Int} {a3 a4 a5:Value} (h:AB w pa a0 om s a3 a4 a5) (hp:w'.heap[pa]? =w.heap[pa]?):AB w' pa a0 om s a3 a4 a5:=hp.trans h
theorem AB.ne {w:World} {pa:Nat} {a0:Value} {om:Option Nat} {s:Int} {a3 a4 a5:Value} (h:AB w pa a0 om s a3 a4 a5) {m:Nat} {L:List Uc} (hm:zbT w m L):m≠pa:=by
 obtain ⟨es,clock,h1,-⟩:=hm;intro e;rw [e] at h1;rw [h] at h1
 cases h1
theorem AB.sum {w:World} {pa:Nat} {a0:Value} {om:Option Nat} {s:Int} {a3 a4 a5:Value} (h:AB w pa a0 om s a3 a4 a5) (s':Int):AB (w.setCell ⟨pa,2,none⟩ (.int .i64 s')) pa a0 om s' a3 a4 a5:=
 heap_setCell_same w pa 2 #[a0, .map om, .int .i64 s,a3,a4,a5] 117 _ h
theorem AB.map {w:World} {pa:Nat} {a0:Value} {om:Option Nat} {s:Int} {a3 a4 a5:Value} (h:AB w pa a0 om s a3 a4 a5) (om':Option Nat):AB (w.setCell ⟨pa,1,none⟩ (.map om')) pa a0 om' s a3 a4 a5:=
 heap_setCell_same w pa 1 #[a0, .map om, .int .i64 s,a3,a4,a5] 117 _ h
theorem zg9 {w:World} {pa:Nat} {a0:Value} {om:Option Nat} {s:Int} {a3 a4 a5:Value} (h:AB w pa a0 om s a3 a4 a5) {L:List Uc} (hm:zeJ w om L) (b:Nat) (hb:b < 4294967296):
 Calls Tryz.prog 139 #[.pointer (some ⟨pa,1,none⟩), .int .u32 (b:Int)] w fun e w'=> e= .returned (.int .i64 (zan L b:Nat))∧w'=w:=by
 obtain ⟨-,c1,-⟩:=h.reads;have hl:=hm.look hb;clear h hm;go_enter Tryz.func139,Tryz.ntmps139;go_wp2_with fail;go_ret;exact ⟨rfl,rfl⟩
def zis (pa:Nat) (a0:Value) (om:Option Nat) (a3 a4 a5:Value) (L:List Uc) (b:Nat) (w w':World):Prop:=
 ∃m s',(om=some m∨(om=none∧w.heap.size≤m))∧AB w' pa a0 (some m) s' a3 a4 a5∧zbT w' m (zbV L b (zan L b+1))∧zD (fun j=> j=pa∨om=some j) w w'
theorem zis.mk' {w w1 w2:World} {pa:Nat} {a0:Value} {om:Option Nat} {s:Int} {a3 a4 a5:Value} {L:List Uc} {b m:Nat} (hm:om=some m∨(om=none∧w.heap.size≤m)) (h1:AB w1 pa a0 (some m) s a3 a4 a5) (LZ:zbT w1 m L) (hM:zbT w2 m (zbV L b (zan L b+1))) (hg:w1.grownBy w2 (some m)) (vL:zD (fun j=> j=pa∨om=some j) w w1) (s':Int):
 zis pa a0 om a3 a4 a5 L b w (w2.setCell ⟨pa,2,none⟩ (.int .i64 s')):=by
 have Aj:=h1.ne LZ;have h2:AB w2 pa a0 (some m) s a3 a4 a5:=h1.heap (hg.block pa h1.lt (fun e=> Aj (Option.some.inj e).symm));refine ⟨m,s',hm,h2.sum s',hM.heap (heap_setCell_other w2 ⟨pa,2,none⟩ m _ Aj),(vL.trans (zD.turn (D:=fun j=> j=m) hg rfl) fun j hj=> ?_).trans (zD.turn (D:=fun j=> j=pa) (zq w2 ⟨pa,2,none⟩ (.int .i64 s')) rfl) fun j hj=> .inl (.inl hj)⟩;rw [hj];rcases hm with h | ⟨-,h⟩
 ·exact .inl (.inr h)
 ·exact .inr h
theorem AB.mapped {w:World} {pa:Nat} {a0:Value} {om:Option Nat} {s:Int} {a3 a4 a5:Value} (h:AB w pa a0 om s a3 a4 a5):
 AB ((w.alloc (.map #[] 0)).setCell ⟨pa,1,none⟩ (.map (some w.heap.size))) pa a0 (some w.heap.size) s a3 a4 a5∧zbT ((w.alloc (.map #[] 0)).setCell ⟨pa,1,none⟩ (.map (some w.heap.size))) w.heap.size []∧zD (fun j=> j=pa∨om=some j) w ((w.alloc (.map #[] 0)).setCell ⟨pa,1,none⟩ (.map (some w.heap.size))):=by
 have AQ:=h.lt;have h1:AB (w.alloc (.map #[] 0)) pa a0 om s a3 a4 a5:=h.heap (Below.heap_alloc _ _ _ AQ);refine ⟨h1.map _,(zbT.made w).heap (heap_setCell_other _ ⟨pa,1,none⟩ w.heap.size _ (by show w.heap.size≠pa;omega)),⟨rfl,rfl,rfl,by rw [World.size_setCell];simp,fun j hj hn=> ?_⟩⟩
 rw [heap_setCell_other _ ⟨pa,1,none⟩ j _ (fun e=> hn (.inl e)),Below.heap_alloc _ _ _ hj]
theorem zeB {w:World} {pa:Nat} {a0:Value} {om:Option Nat} {s:Int} {a3 a4 a5:Value} (h:AB w pa a0 om s a3 a4 a5) {L:List Uc} (hm:zeJ w om L) (b:Nat) (Aq:0 < b) (hb:b < 4294967296) (hc:zan L b < 1000000):
 Calls Tryz.prog 102 #[.pointer (some ⟨pa,1,none⟩), .int .u32 (b:Int)] w fun e w'=> (∃v,e= .returned v)∧zis pa a0 om a3 a4 a5 L b w w':=by
 obtain ⟨-,c1,c2,-,-,-,fz⟩:=h.reads;have f1:=fz 1;have f2:=fz 2;have AQ:=h.lt;have h0:((b:Int)==0)=false:=by rw [beq_eq_false_iff_ne];omega
 have sw:IntKind.i64.wrap ((zan L b:Nat)+1:Int)=((zan L b+1:Nat):Int):=by rw [zw _ (by omega)];omega
 clear fz;rcases hm with ⟨rfl,rfl⟩ | ⟨m,rfl,hm⟩
 ·have he:=zjS w;have Tw:=@run_makeMap Tryz.prog;obtain ⟨hA,L6,hO⟩:=h.mapped;have g2:(w.alloc (.map #[] 0)).frozen? ⟨pa,1,none⟩=false:=by rw [World.frozen?_of_block (w:=w)];exact f1;exact Below.heap_alloc _ _ _ AQ
  have d2:(w.alloc (.map #[] 0)).cell? ⟨pa,1,none⟩=some (.map none):=by rw [World.cell?_of_block (w:=w)];exact c1;exact Below.heap_alloc _ _ _ AQ
  have ai:=L6.look hb;have hr:=hA.reads;obtain ⟨w2,Cc,CE,hg,AR⟩:=L6.put (s:=b) (v:=zan [] b+1) hb (by omega)
  have I5:=hA.heap (hg.block pa hA.lt (fun e=> hA.ne L6 (Option.some.inj e).symm));obtain ⟨-,e1,e2,-,-,-,ez⟩:=I5.reads;have ef:=ez 2;have On:=zh CE;have AJ:=zh (fun s'=> zis.mk' (.inr ⟨rfl,zl⟩) hA L6 CE hg hO s');obtain ⟨cA,-⟩:((w.alloc (.map #[] 0)).setCell ⟨pa,1,none⟩ (.map (some w.heap.size))).cell? ⟨pa,1,none⟩=some (.map (some w.heap.size))∧True:=⟨hr.2.1,trivial⟩;rw [World.setCell_alloc_past (w:=w) (.map #[] 0) pa 1 (.map (some w.heap.size)) AQ] at Cc cA ai;have Jl:zbT (w2.setCell ⟨pa,2,none⟩ (.int .i64 (wrap64 (s+1)))) w.heap.size (zbV [] b (zan [] b+1)):=CE.heap (heap_setCell_other w2 ⟨pa,2,none⟩ w.heap.size _ (by show w.heap.size≠pa;omega))
  have QS:=Jl.look hb;clear h hA L6 CE hg hO hr AR I5 ez Jl;go_enter Tryz.func102,Tryz.ntmps102
  go_wp2_with (at_mapUpdate;refine zab rfl _ _ _ _ rfl Cc ?_)
  go_ret;exact ⟨⟨_,rfl⟩,AJ.out _⟩
 ·have he:=zhM m w;have hl:=hm.look hb;obtain ⟨w2,Cc,CE,hg,AR⟩:=hm.put (s:=b) (v:=zan L b+1) hb (by omega)
  have I5:=h.heap (hg.block pa h.lt (fun e=> h.ne hm (Option.some.inj e).symm));obtain ⟨-,e1,e2,-,-,-,ez⟩:=I5.reads;have ef:=ez 2;have AJ:=zh (fun s'=> zis.mk' (.inl rfl) h hm CE hg (zD.refl _ w) s');have Jl:zbT (w2.setCell ⟨pa,2,none⟩ (.int .i64 (wrap64 (s+1)))) m (zbV L b (zan L b+1)):=CE.heap (heap_setCell_other w2 ⟨pa,2,none⟩ m _ (h.ne hm));have QS:=Jl.look hb;clear h CE hg AR I5 ez Jl hm;generalize zan L b=n at *;go_enter Tryz.func102,Tryz.ntmps102
  go_wp2_with (at_mapUpdate;refine zab rfl _ _ _ _ rfl Cc ?_)
  go_ret;exact ⟨⟨_,rfl⟩,AJ.out _⟩
end
section
open Go.RowKit
structure zX (w:World) (pa:Nat) (F:List Nat) (L:List Uc) (n:Nat) (D:Nat→Prop):Prop where
 has:∃(pf:Nat) (om:Option Nat) (s:Int) (m:Nat) (Df:Nat→Prop),AB w pa (zv pf) om s (.map (some m)) (.slice none 0 0) (.int .i64 (n:Int))∧zbc w pf F Df∧zeJ w om L∧zbT w m []∧(∀j,D j↔j=pa∨Df j∨om=some j∨j=m)∧¬Df pa∧¬Df m∧∀j,om=some j→¬Df j∧j≠m
 pos:∀p ∈ L,0 < p.2
theorem zX.kept {w w':World} {pa:Nat} {F:List Nat} {L:List Uc} {n:Nat} {D:Nat→Prop} (h:zX w pa F L n D) (hk:zbD D w w'):zX w' pa F L n D:=by
 obtain ⟨pf,om,s,m,Df,h1,h2,h3,h4,h5,h6,h7,h8⟩:=h.has;exact ⟨⟨pf,om,s,m,Df,h1.heap (hk.block _ ((h5 _).2 (.inl rfl))),h2.kept (hk.less fun j hj=> (h5 j).2 (.inr (.inl hj))),h3.heap (fun j hj=> hk.block _ ((h5 j).2 (.inr (.inr (.inl hj))))),h4.heap (hk.block _ ((h5 m).2 (.inr (.inr (.inr rfl))))),h5,h6,h7,h8⟩,h.pos⟩
theorem zX.lt {w:World} {pa:Nat} {F:List Nat} {L:List Uc} {n:Nat} {D:Nat→Prop} (h:zX w pa F L n D):∀j,D j→j < w.heap.size:=by
 obtain ⟨pf,om,s,m,Df,h1,h2,h3,h4,h5,h6,h7,h8⟩:=h.has;intro j hj;rcases (h5 j).1 hj with rfl | hj | hj | rfl
 ·exact h1.lt
 ·exact h2.lt j hj
 ·exact h3.lt hj
 ·exact h4.lt
theorem zX.fnodup {w:World} {pa:Nat} {F:List Nat} {L:List Uc} {n:Nat} {D:Nat→Prop} (h:zX w pa F L n D):F.Nodup:=by
 obtain ⟨pf,om,s,m,Df,h1,h2,h3,h4,h5,h6,h7,h8⟩:=h.has;exact h2.nodup
theorem zjk {L:List Uc} {b v:Nat} (h:∀p ∈ L,0 < p.2) (hv:0 < v):∀p ∈ zbV L b v,0 < p.2:=by
 induction L with
 | nil=>
   intro p hp;simp only [zbV,List.mem_singleton] at hp;rw [hp];exact hv
 | cons q L ih=>
   intro p hp;unfold zbV at hp
   by_cases e:q.1=b
   ·rw [if_pos e] at hp;rcases List.mem_cons.1 hp with rfl | hp
    ·exact hv
    ·exact h p (List.mem_cons_of_mem _ hp)
   ·rw [if_neg e] at hp;rcases List.mem_cons.1 hp with rfl | hp
    ·exact h _ List.mem_cons_self
    ·exact ih (fun p hp=> h p (List.mem_cons_of_mem _ hp)) p hp
theorem zX.tabled {w w':World} {pa pf:Nat} {F:List Nat} {L':List Uc} {n:Nat} {D Df:Nat→Prop} {om:Option Nat} {s:Int} {m m':Nat}
 (h1:AB w pa (zv pf) om s (.map (some m)) (.slice none 0 0) (.int .i64 (n:Int))) (hf:zbc w pf F Df) (h4:zbT w m []) (h5:∀j,D j↔j=pa∨Df j∨om=some j∨j=m) (h6:¬Df pa) (h7:¬Df m) (h8:∀j,om=some j→¬Df j∧j≠m)
 (hp:∀p ∈ L',0 < p.2) (Lu:om=some m'∨(om=none∧w.heap.size≤m')) {s':Int} (G2:AB w' pa (zv pf) (some m') s' (.map (some m)) (.slice none 0 0) (.int .i64 (n:Int))) (RG:zbT w' m' L') (ho:zD (fun j=> j=pa∨om=some j) w w'):
 ∃D',zX w' pa F L' n D'∧zba D w D' w'∧zD D w w':=by
 have FW:=h4.lt;have EP:=hf.lt;have AQ:=h1.lt;have YH:m≠pa:=h1.ne h4;have hm'f:¬Df m'∧m'≠m:=by
  rcases Lu with h | ⟨-,h⟩
  ·exact h8 m' h
  ·exact ⟨fun e=> by have:=EP m' e;omega,by omega⟩
 have vU:zbc w' pf F Df:=hf.kept (ho.kept EP fun j hj e=> by
  rcases e with e | e
  ·rw [e] at hj;exact h6 hj
  ·exact (h8 j e).1 hj)
 refine ⟨fun j=> j=pa∨Df j∨some m'=some j∨j=m,⟨⟨pf,some m',s',m,Df,G2,vU, .inr ⟨m',rfl,RG⟩,h4.heap (ho.block m FW fun e=> ?_),fun j=> Iff.rfl,h6,h7,fun j hj=> by cases hj;exact hm'f⟩,hp⟩,⟨fun j hj=> ?_,fun j hj=> ?_⟩,ho.more fun j hj=> ?_⟩
 ·rcases e with e | e
  ·exact YH e
  ·exact (h8 m e).2 rfl
 ·rcases hj with rfl | hj | hj | rfl
  ·exact .inl ((h5 _).2 (.inl rfl))
  ·exact .inl ((h5 _).2 (.inr (.inl hj)))
  ·cases hj
   rcases Lu with h | ⟨-,h⟩
   ·exact .inl ((h5 _).2 (.inr (.inr (.inl h))))
   ·exact .inr h
  ·exact .inl ((h5 _).2 (.inr (.inr (.inr rfl))))
 ·rcases hj with rfl | hj | hj | rfl
  ·exact zt AQ ho.size
  ·exact zt (EP j hj) ho.size
  ·cases hj;exact RG.lt
  ·exact zt FW ho.size
 ·rcases hj with hj | hj
  ·exact (h5 j).2 (.inl hj)
  ·exact (h5 j).2 (.inr (.inr (.inl hj)))
theorem zhs (n:Nat) (w:World) (hn:n≤4096):
 Calls Tryz.prog 21 #[.int .i64 (n:Int)] w fun e w'=> ∃pa D,e= .returned (.tuple #[zv pa, .int .i64 0])∧zX w' pa (znG n) [] n D∧(∀j,D j→w.heap.size≤j)∧Below w.heap.size w w':=by
 have HN:=zh (ziW n w hn);have Tw:=@run_makeMap Tryz.prog;go_enter Tryz.func21,Tryz.ntmps21;go_wp2_with fail;refine HN.out.mono ?_;rintro e w2 ⟨p,Df,rfl,hF,hD,Ae⟩;have HH:=zh (zn hF (zn hD Ae));unfold zv;clear hF hD Ae;go_wp2_with fail;go_ret2;obtain ⟨hF,hD,Ae⟩:=HH.out;have C6:(w2.alloc (.map #[] 0)).heap.size=w2.heap.size+1:=by simp
 have hx:=heap_alloc_new (w2.alloc (.map #[] 0)) (.cells #[.pointer (some ⟨p,0,none⟩), .map none, .int .i64 0, .map (some w2.heap.size), .slice none 0 0, .int .i64 (n:Int)] 117);rw [C6] at hx;have Ar:Below w2.heap.size w2 ((w2.alloc (.map #[] 0)).alloc (.cells #[.pointer (some ⟨p,0,none⟩), .map none, .int .i64 0, .map (some w2.heap.size), .slice none 0 0, .int .i64 (n:Int)] 117)):=(zr.alloc zl _).alloc (by omega) _
 refine ⟨w2.heap.size+1,fun j=> j=w2.heap.size+1∨Df j∨none=some j∨j=w2.heap.size,rfl,⟨⟨p,none,0,w2.heap.size,Df,hx,hF.kept (zbD.of_below Ar hF.lt), .inl ⟨rfl,rfl⟩,(zbT.made w2).heap (Below.heap_alloc _ _ _ (by omega)),fun j=> Iff.rfl,fun e=> ?_,fun e=> ?_,by simp⟩,by simp⟩,fun j hj=> ?_,Ae.trans (Ar.mono Ae.size)⟩
 ·have:=hF.lt _ e;omega
 ·have:=hF.lt _ e;omega
 ·have:=Ae.size;rcases hj with rfl | hj | hj | rfl
  ·omega
  ·exact hD j hj
  ·cases hj
  ·omega
theorem zfO {w:World} {pa:Nat} {F:List Nat} {L:List Uc} {n:Nat} {D:Nat→Prop} (h:zX w pa F L n D) (Aj:F≠ []) (hF:F.length < 100000) (hc:∀x ∈ F,zan L x < 1000000):
 Calls Tryz.prog 58 #[zv pa] w fun e w'=> ∃(x:Nat) (D':Nat→Prop),e= .returned (.tuple #[.int .u32 (x:Int), .int .i64 0])∧x ∈ F∧zX w' pa (F.erase x) (zbV L x (zan L x+1)) n D'∧zba D w D' w'∧zD D w w':=by
 have BP:=h.pos;obtain ⟨pf,om,s,m,Df,h1,h2,h3,h4,h5,h6,h7,h8⟩:=h.has;obtain ⟨c0,-⟩:=h1.reads;have HT:=zh (zgU h2 Aj hF);have HK:=zh (zn h1 (zn h2 (zn h3 (zn h4 (zn h5 (zn h6 (zn h7 h8)))))));unfold zv at c0 HT ⊢;clear h h1 h2 h3 h4 h5 h6 h7 h8 Aj;go_enter Tryz.func58,Tryz.ntmps58;go_wp2_with fail;refine HT.out.mono ?_;clear HT c0;rintro e w2 ⟨x,rfl,hx,JA,A5⟩;obtain ⟨h1,h2,h3,h4,h5,h6,h7,h8⟩:=HK.out;have Fv:=h2.ok x hx;have G2:=h1.heap (A5.block pa h1.lt h6);have RG:=h3.heap (w':=w2) (fun j hj=> A5.block j (h3.lt hj) (h8 j hj).1);have Z5:=h4.heap (A5.block m h4.lt h7);have HH:=zh (zeB G2 RG x Fv.1 Fv.2 (hc x hx));have Cy:zba Df w Df w2:=zba.refl h2.lt A5.size;have AJ:=zh (zn hx (fun w3 (hr:zis pa (zv pf) om (.map (some m)) (.slice none 0 0) (.int .i64 (n:Int)) L x w2 w3)=> show ∃D',zX w3 pa (F.erase x) (zbV L x (zan L x+1)) n D'∧zba D w D' w3∧zD D w w3 by
  obtain ⟨m',s',Lu,OH,JB,Kd⟩:=hr;have DB:∀j,D j→j < w.heap.size:=fun j hj=> by
   rcases (h5 j).1 hj with rfl | hj | hj | rfl
   ·exact h1.lt
   ·exact h2.lt j hj
   ·exact h3.lt hj
   ·exact h4.lt
  obtain ⟨D',vN,yN,aI⟩:=zX.tabled G2 JA Z5 h5 h6 h7 h8 (zjk BP (by omega)) Lu OH JB Kd
  exact ⟨D',vN,(zba.refl DB A5.size).trans yN A5.size,(A5.more fun j hj=> (h5 j).2 (.inr (.inl hj))).trans aI fun j hj=> .inl hj⟩))
 clear JA A5 hx h1 h2 h3 h4 h5 h6 h7 h8 G2 RG Z5 Cy Fv BP hc;go_wp2_with fail;refine HH.out.mono ?_;clear HH;rintro e w3 ⟨⟨v,rfl⟩,hr⟩;have HR:=zh (AJ.out.2 w3 hr);clear hr;go_wp2_with fail;go_ret2;obtain ⟨D',q1,q2,q3⟩:=HR.out;exact ⟨x,D',rfl,AJ.out.1,q1,q2,q3⟩
theorem zgz {w:World} {pa:Nat} {F:List Nat} {L:List Uc} {n:Nat} {D:Nat→Prop} (h:zX w pa F L n D) (b:Nat) (Aq:0 < b) (hb:b < 4294967296) (Em:0 < zan L b) (hc:zan L b < 1000000):
 Calls Tryz.prog 100 #[zv pa, .int .u32 (b:Int)] w fun e w'=> ∃(D':Nat→Prop),e= .returned (.int .i64 0)∧zX w' pa F (zbV L b (zan L b+1)) n D'∧zba D w D' w'∧zD D w w':=by
 have BP:=h.pos;obtain ⟨pf,om,s,m,Df,h1,h2,h3,h4,h5,h6,h7,h8⟩:=h.has;obtain ⟨c0,-⟩:=h1.reads;have HC:=zh (zg9 h1 h3 b hb);have HT:=zh (zeB h1 h3 b Aq hb hc);have AJ:=zh (fun w3 (hr:zis pa (zv pf) om (.map (some m)) (.slice none 0 0) (.int .i64 (n:Int)) L b w w3)=> show ∃D',zX w3 pa F (zbV L b (zan L b+1)) n D'∧zba D w D' w3∧zD D w w3 by
  obtain ⟨m',s',Lu,OH,JB,Kd⟩:=hr;exact zX.tabled h1 h2 h4 h5 h6 h7 h8 (zjk BP (by omega)) Lu OH JB Kd)
 have z0:((zan L b:Nat):Int)≠0:=by omega
 have z1:(((zan L b:Nat):Int)==0)=false:=by rw [beq_eq_false_iff_ne];exact z0
 unfold zv at HT ⊢;clear h h1 h2 h3 h4 h5 h6 h7 h8 c0 BP hc;generalize zan L b=c at *;go_enter Tryz.func100,Tryz.ntmps100;go_wp2_with fail;refine HC.out.mono ?_;rintro e w2 ⟨rfl,rfl⟩;go_wp2_with fail;refine HT.out.mono ?_;rintro e w3 ⟨⟨v,rfl⟩,hr⟩;have HR:=zh (AJ.out w3 hr);clear hr;go_wp2_with fail;go_ret;obtain ⟨D',q1,q2,q3⟩:=HR.out;exact ⟨D',rfl,q1,q2,q3⟩
end
section
open Go.RowKit
def zcV (n:Nat):List Value:= [zv n]
theorem zE (e:Nat):(zcV e).length=1:=rfl
theorem zbg (e:Nat):∀u ∈ zcV e,u.oneCell'=true:=fun u hu=> by
 simp [zcV] at hu;subst hu
 rfl
theorem zj1:(Tryz.prog.info? 98).map (fun i=> (i.zero,i.size,i.bytes))=some (some (.pointer none),1,8):=by kernel_rfl
theorem zM.ptr {w:World} {a:Option Addr} {n:Nat} {l:List Nat} (h:zM zcV 1 w a n l) (i q:Nat) (hq:l[i]? =some q):∃b o,a=some ⟨b,o,none⟩∧w.cell? ⟨b,o+i,none⟩=some (zv q):=by
 obtain ⟨b,o,e,h1⟩:=h.2 i q hq;exact ⟨b,o,e,by have:=h1 0 (zv q) rfl;simpa using this⟩
theorem zdg {w:World} {b o n c:Nat} {l:List Nat} (h:zM zcV 1 w (some ⟨b,o,none⟩) n l) (hn:n≤1000):
 Calls Tryz.prog 151 #[.slice (some ⟨b,o,none⟩) n c] w fun r w'=> ∃v',r= .returned v'∧zK zcV 1 98 w' w.heap.size v' l∧Below w.heap.size w w':=by
 obtain ⟨i0,AD,AG,Ai,Ax⟩:=zW zj1;have Aq:Below w.heap.size w (w.alloc (.cells #[] 98)):=zr.alloc zl _;have Af:zK zcV 1 98 (w.alloc (.cells #[] 98)) w.heap.size (.slice (some ⟨w.heap.size,0,none⟩) 0 0) []:=World.ownsRow_made w #[] 0 zl (Nat.zero_le _) (by simp)
 have h1:zM zcV 1 (w.alloc (.cells #[] 98)) (some ⟨b,o,none⟩) n l:=⟨h.1,fun i r hr=> by
  obtain ⟨b',o',e,h2⟩:=h.2 i r hr;exact ⟨b',o',e,fun j x hx=> zu (h2 j x hx) _⟩⟩
 obtain ⟨v',w',BE,ho,hg⟩:=Af.app zE (by decide) zbg Tryz.underlying241 AD AG Ai Ax rfl c h1 (by simp;omega) (by simp;omega) Aq.size
 have HR:=zh (zn ho (Below.own Aq Af hg zl Aq.size));have q22:(binOp .eql 241 (.slice (some ⟨b,o,none⟩) n c) (.slice none 0 0)).run Tryz.prog w= .ok (.bool false) w:=Lib.run_eql_slice_nil w _ _ _ n c 0 0 Tryz.underlying241;clear h h1 Af ho hg Aq AD AG Ai Ax;go_enter Tryz.func151,Tryz.ntmps151
 go_wp2_with (at_builtin;refine za rfl _ _ _ rfl BE ?_)
 go_ret;exact ⟨v',rfl,HR.out⟩
theorem zjg {w:World} {vb b:Nat} {ca cb:Array Value} {ta tb:TypeId} (h1:w.heap[vb]? =some (.cells ca ta (0,0))) (h2:w.heap[b]? =some (.cells cb tb (0,0))) (Aj:b≠vb) (Pg:ca.size≠0) (o la va lb vc:Nat):
 (callFunc 195 #[.slice (some ⟨b,o,none⟩) lb vc, .slice (some ⟨vb,0,none⟩) la va]).run Tryz.prog w= .ok (.value (.bool false)) w:=by
 obtain ⟨i0,hi,AG,Ai,Ax⟩:=zW zj1;rw [run_callFunc_extern Tryz.func195 (by kernel_rfl) (by kernel_rfl) (by kernel_rfl) (e:=Extern.SlicesOverlaps.overlaps #[241,241] #[4]) (by kernel_rfl),
  Lib.run_overlaps_apart w 241 4 98 Tryz.underlying241 1 (fun w=> by simp [sizeOf,typeInfo,hi,Ai]) ⟨b,o,none⟩ ⟨vb,0,none⟩ lb vc la va Aj tb ta cb.size ca.size (by simp [World.shape?,h2]) (by simp [World.shape?,h1]) Pg (by simp [World.frozen?,h2]) (by simp [World.frozen?,h2])]
 rfl
theorem zcF {w:World} {B:Nat} {v:Value} {l:List Nat} (h:zK zcV 1 98 w B v l) (i j:Nat) (Fr:i < j) (hj:j≤l.length) (hl:l.length≤1000) {b2:Nat} {c2:Nat} {l2:List Nat} (h2:zM zcV 1 w (some ⟨b2,0,none⟩) l2.length l2) (bJ:0 < l2.length) (bK:l2.length≤1000) (bL:l2.length≤j - i+1)
 {cur2:Array Value} {t2:TypeId} (Ae:w.heap[b2]? =some (.cells cur2 t2 (0,0))) (Bd:cur2.size≠0) (Aj:v.ownBlock≠some b2) (hB:B≤w.heap.size):
 Calls Tryz.prog 150 #[v, .int .i64 (i:Int), .int .i64 (j:Int), .slice (some ⟨b2,0,none⟩) l2.length c2] w fun r w'=> ∃v',r= .returned v'∧zK zcV 1 98 w' B v' (l.take i++(l2++l.drop j))∧w.grownBy w' v.ownBlock:=by
 obtain ⟨i0,AD,AG,Ai,Ax⟩:=zW zj1;rcases h.cases with ⟨rfl,rfl⟩ | ⟨g,cap,rfl,Bc,BF,hR⟩
 ·simp at hj;omega
 have G6:g≠b2:=fun e=> Aj (by rw [e];rfl)
 have BO:=hR.le;have Ce:cap≤9223372036854775807:=by have:=hR.cm;unfold maxLen at this;omega
 have BJ:(l.drop j).length=l.length - j:=List.length_drop;have Ci:(l.take i).length=i:=by rw [List.length_take];omega
 have E6:=hR.row zE;have EG:zM zcV 1 w (some ⟨g,j,none⟩) (l.length - j) (l.drop j):=by simpa using E6.drop j
 have hc2r:=zM.cells zE (by decide) h2
 have hb2s:b2 < w.heap.size:=(zg Ae).1;have KL:(i:Int)≠(j:Int):=by omega
 by_cases C2:j=l.length
 ·subst C2;have AL:l.take i++(l2++l.drop l.length)=l.take i++l2:=by rw [List.drop_length,List.append_nil]
  by_cases VF:i+l2.length < l.length
  ·obtain ⟨w1,BK,C9,BC⟩:=zbn zE zbg (t:=241) Tryz.underlying241 AD Ai hR i (by omega) l2 ⟨b2,0,none⟩ hc2r (by omega)
   obtain ⟨w2,B7,B0,A9⟩:=zbe (by decide) (t:=241) (z:= .pointer none) Tryz.underlying241 (fun w=> by simp [zeroValue,typeInfo,AD,AG]) rfl (fun u hu=> by simp [Value.cells] at hu;subst hu;rfl) C9 (i+l2.length) (l.length - (i+l2.length)) (by rw [List.length_append,Ci];exact zl) (by omega) ((i+l2.length) * 1) (.inr rfl)
   have Af:=B0.own zE Bc;rw [List.length_append,Ci,← AL] at Af;have HR:=zh (zn Af (BC.trans A9).grown);simp only [Nat.mul_one] at BK B7;have Jn:¬cap=i+l2.length:=by omega
   have BH:i≤cap:=by omega
   have PM:(i:Int)+(l2.length:Int) < (l.length:Int):=by omega
   have NM:i+l2.length≤l.length:=by omega
   have PN:i≤l.length:=by omega
   clear h hR E6 EG C9 B0 BC A9 hc2r Af AL AD AG Ai Ax BJ Ci BF Bc h2 Ae Bd hb2s Aj;generalize hn:l.length=n at *;generalize hm:l2.length=m at *;go_enter Tryz.func150,Tryz.ntmps150
   go_wp2_with (at_builtin;refine za rfl _ _ _ rfl (BK _ _) ?_)
   go_ret;exact ⟨_,rfl,HR.out⟩
  ·have EU:=(hR.take zE i).own zE Bc;rw [Ci] at EU;obtain ⟨v1,w1,BK,Bo,Cf⟩:=EU.app zE (by decide) zbg Tryz.underlying241 AD AG Ai Ax rfl c2 h2 (by omega) (by omega) hB
   rw [← AL] at Bo;have HR:=zh (zn Bo (show w.grownBy w1 (some g) from Cf));obtain ⟨a1,cap1,rfl,-,SD,-⟩:=Bo.row zE;have EF:(l.take i++(l2++l.drop l.length)).length=i+l2.length:=by rw [AL,List.length_append,Ci]
   rw [EF] at BK HR;have BH:i≤cap:=by omega
   have PM:¬((i:Int)+(l2.length:Int) < (l.length:Int)):=by omega
   have PN:i≤l.length:=by omega
   clear h hR E6 EG Bo Cf EU hc2r AL AD AG Ai Ax BJ Ci BF Bc h2 Ae Bd hb2s Aj EF SD;generalize hn:l.length=n at *;generalize hm:l2.length=m at *;go_enter Tryz.func150,Tryz.ntmps150
   go_wp2_with (at_builtin;refine za rfl _ _ _ rfl BK ?_)
   go_ret;exact ⟨_,rfl,HR.out⟩
 have FT:j < l.length:=by omega
 have BG:(l.take i++(l2++l.drop j)).length=i+l2.length+(l.length - j):=by rw [List.length_append,List.length_append,Ci,BJ,Nat.add_assoc]
 have DP:IntKind.i64.wrap ((i:Int)+(l2.length:Int))=((i+l2.length:Nat):Int):=by rw [zw _ (by omega)];omega
 have BB:IntKind.i64.wrap (((i+l2.length:Nat):Int)+((l.length - j:Nat):Int))=((i+l2.length+(l.length - j):Nat):Int):=by rw [zw _ (by omega)];omega
 have BX:¬((j:Int)=(l.length:Int)):=by omega
 have BY:¬cap=j:=by omega
 have Cg:i≤cap:=by omega
 have ND:j≤cap:=by omega
 have Jk:i≤l.length:=by omega
 have hl2len:(l.take i++l2).length=i+l2.length:=by rw [List.length_append,Ci]
 by_cases EW:i+l2.length+(l.length - j)≤cap
 ·by_cases VF:i+l2.length≤j
  ·-- in place,no longer
   obtain ⟨w1,BK,-,C9,BC⟩:=zaX zE zbg (dT:=241) (sT:=241) Tryz.underlying241 AD Ai (w:=w.drew) (hR.heap rfl) i (by omega) l2 ⟨b2,0,none⟩ hc2r (by omega) l2.length (i+l2.length+(l.length - j) - i) (by simp only [Nat.min_def];split <;> omega)
   have OV:=C9 (by omega)
   have Gb:(l.take i++l2++l.drop (i+l2.length)).length=l.length:=by rw [List.length_append,hl2len,List.length_drop];omega
   have kp:(l.take i++l2++l.drop (i+l2.length)).drop j=l.drop j:=by
        rw [List.drop_append,hl2len,List.drop_of_length_le (by rw [hl2len];exact VF),List.nil_append,List.drop_drop]
        congr 1;omega
   have C6:zM zcV 1 w1 (some ⟨g,j,none⟩) (l.length - j) (l.drop j):=by
        have:=(OV.row zE).drop j;rw [kp,Gb] at this
        simpa using this
   obtain ⟨w2,B7,B0,-,A9⟩:=zaX zE zbg (dT:=241) (sT:=241) Tryz.underlying241 AD Ai (w:=w1.drew) (OV.heap rfl) (i+l2.length) (by rw [Gb];omega) (l.drop j) ⟨g,j,none⟩ (zM.cells zE (by decide) (w:=w1.drew) C6) (by rw [BJ];omega) (l.length - j) (l.length - j) (by rw [BJ];simp)
   have AL:(l.take i++l2++l.drop (i+l2.length)).take (i+l2.length)++l.drop j=l.take i++(l2++l.drop j):=by
        rw [List.take_left' hl2len,List.append_assoc]
   rw [AL] at B0;obtain ⟨o,hA,ho⟩:∃o,(if cap=i+l2.length+(l.length - j) then (some ⟨g,0,none⟩:Option Addr) else some ⟨g,i+l2.length+(l.length - j),none⟩)=some ⟨g,o,none⟩∧(l.length - (i+l2.length+(l.length - j))=0∨o=(i+l2.length+(l.length - j)) * 1):=by
        by_cases h:cap=i+l2.length+(l.length - j)
        ·exact ⟨0,by rw [if_pos h], .inl (by omega)⟩
        ·exact ⟨_,by rw [if_neg h], .inr (by omega)⟩
   obtain ⟨w3,KV,Gv,CA⟩:=zbe (by decide) (t:=241) (z:= .pointer none) Tryz.underlying241 (fun w=> by simp [zeroValue,typeInfo,AD,AG]) rfl (fun u hu=> by simp [Value.cells] at hu;subst hu;rfl) B0 (i+l2.length+(l.length - j)) (l.length - (i+l2.length+(l.length - j))) (by rw [BG];exact zl) (by omega) o ho
   have Af:=Gv.own zE Bc;rw [BG] at Af;have hg:w.grownBy w3 (some g):=(((show zcN g w w1 from ⟨BC.os,BC.tape,BC.output,BC.size,BC.block⟩).trans (show zcN g w1 w2 from ⟨A9.os,A9.tape,A9.output,A9.size,A9.block⟩)).trans CA).grown;have HR:=zh (zn Af (show w.grownBy w3 (some g) from ⟨hg.os,hg.tape,hg.output,hg.size,hg.block⟩));simp only [Nat.mul_one] at BK B7 KV;rw [BJ] at B7;have CR:¬cap=i:=by omega
   have NE:¬cap=i+l2.length:=by omega
   have kP:i+l2.length+(l.length - j) - (i+l2.length)=l.length - j:=by omega
   have kQ:¬((cap:Int) < ((i+l2.length+(l.length - j):Nat):Int)):=by omega
   have ac:((i+l2.length:Nat):Int)≤(j:Int):=by omega
   have Ta:i≤i+l2.length+(l.length - j):=by omega
   have Tb:i+l2.length≤i+l2.length+(l.length - j):=by omega
   have ab:i+l2.length+(l.length - j)≤l.length:=by omega
   have Tc:j≤l.length:=by omega
   clear h hR E6 EG C9 OV B0 Gv BC A9 CA hc2r Af AL AD AG Ai Ax Ci BF Bc h2 Ae Bd hb2s Aj kp Gb C6 BG hl2len ho hg;generalize hd:l.length - j=dj at *;generalize hn:l.length=n at *;generalize hm:l2.length=m at *;generalize Uj:i+m+dj=tot at *;generalize kF:i+m=im at *;go_enter Tryz.func150,Tryz.ntmps150;go_wp2_with fail
   go_region
   go_wp2_with (at_builtin;refine zaE rfl _ _ _ _ rfl (BK _ _ _) ?_)
   go_region_law (refine zaY rfl _ _ 241 241 rfl _ _ (by simp [Act.eval,Act.put];done) (by simp [Act.eval,Act.put]) (B7 _ _ _) ?_)
   go_wp2_with fail;go_ret;exact ⟨_,rfl,HR.out⟩
  ·-- in place,longer
   have De:i+l2.length≤l.length:=by omega
   obtain ⟨w1,BK,C9,-,BC⟩:=zaX zE zbg (dT:=241) (sT:=241) Tryz.underlying241 AD Ai (w:=w.drew.drew) (hR.heap rfl) (i+l2.length) De (l.drop j) ⟨g,j,none⟩ (zM.cells zE (by decide) (w:=w.drew.drew) EG) (by rw [BJ];omega) (l.length - j) (l.length - j) (by rw [BJ];simp)
   have Gb:(l.take (i+l2.length)++l.drop j).length=i+l2.length+(l.length - j):=by rw [List.length_append,List.length_take,BJ];omega
   have hc2w:∀t u,(zB zcV l2)[t]? =some u→w1.cell? ((⟨b2,0,none⟩:Addr).add t)=some u:=fun t u hu=> by
        rw [← hc2r t u hu,zdt];simp only [World.cell?];rw [BC.block b2 (fun e=> G6 e.symm)]
        rfl
   obtain ⟨w2,B7,-,B0,A9⟩:=zaX zE zbg (dT:=241) (sT:=241) Tryz.underlying241 AD Ai C9 i (by rw [Gb];omega) l2 ⟨b2,0,none⟩ hc2w (by omega) l2.length (i+l2.length+(l.length - j) - i) (by simp only [Nat.min_def];split <;> omega)
   have OW:=B0 (by rw [Gb];omega)
   have AL:(l.take (i+l2.length)++l.drop j).take i++l2++(l.take (i+l2.length)++l.drop j).drop (i+l2.length)=l.take i++(l2++l.drop j):=by
        rw [List.drop_left' (by rw [List.length_take];omega),List.take_append_of_le_length (by rw [List.length_take];omega),List.take_take,Nat.min_eq_left (by omega),List.append_assoc]
   rw [AL] at OW;have Af:=OW.own zE Bc;rw [BG] at Af;have hg:w.grownBy w2 (some g):=((show zcN g w w1 from ⟨BC.os,BC.tape,BC.output,BC.size,BC.block⟩).trans A9).grown;have HR:=zh (zn Af hg);obtain ⟨curg,Nv,Nw,-⟩:=hR.ex;have II:=fun la va lb vc=> zjg (w:=w.drew) Ae Nv G6 Bd (i+l2.length) la va lb vc;simp only [Nat.mul_one] at BK B7;rw [BJ] at BK;have CR:¬cap=i:=by omega
   have NE:¬cap=i+l2.length:=by omega
   have kP:i+l2.length+(l.length - j) - (i+l2.length)=l.length - j:=by omega
   have kQ:¬((cap:Int) < ((i+l2.length+(l.length - j):Nat):Int)):=by omega
   have ac:¬((i+l2.length:Nat):Int)≤(j:Int):=by omega
   have Ta:i≤i+l2.length+(l.length - j):=by omega
   have Tb:i+l2.length≤i+l2.length+(l.length - j):=by omega
   have Tc:j≤l.length:=by omega
   clear h hR E6 EG C9 B0 OW BC A9 hc2r hc2w Af AL AD AG Ai Ax Ci BF Bc h2 Ae Bd hb2s Aj Gb BG hl2len hg Nv Nw;generalize hd:l.length - j=dj at *;generalize hn:l.length=n at *;generalize hm:l2.length=m at *;generalize Uj:i+m+dj=tot at *;generalize kF:i+m=im at *;go_enter Tryz.func150,Tryz.ntmps150;go_wp2_with fail
   go_region
   go_wp2_with (simp only [II])
   go_region_law (refine zaY rfl _ _ 241 241 rfl _ _ (by simp [Act.eval,Act.put];done) (by simp [Act.eval,Act.put]) (BK _ _ _) ?_)
   go_wp2_with (at_builtin;refine zaE rfl _ _ _ _ rfl (B7 _ _ _) ?_)
   go_ret;exact ⟨_,rfl,HR.out⟩
 ·-- a new row
  obtain ⟨cap1,w1,BK,C9,F9,Aa,FZ⟩:=zeD zE (by decide) (t:=241) (tn:=3) (kq:= .i64) (kn:= .i64) Tryz.underlying241 Tryz.underlying3 AD AG Ai Ax rfl (w:=w.drew) (hR.heap rfl) i (by omega) (i+l2.length+(l.length - j) - i) (by omega) (by omega) (by omega) (by omega)
  have E7:Below w.heap.size w w1:=⟨Aa.os,Aa.tape,Aa.output,Aa.size,Aa.block⟩;have N4:w1.heap.size=w.heap.size+1:=FZ;have hc2w:∀t u,(zB zcV l2)[t]? =some u→w1.cell? ((⟨b2,0,none⟩:Addr).add t)=some u:=fun t u hu=> by
   rw [← hc2r t u hu,zdt];exact E7.cell (p:=⟨b2,0+t,none⟩) hb2s
  obtain ⟨w2,B7,B0,-,A9⟩:=zaX zE zbg (dT:=241) (sT:=241) Tryz.underlying241 AD Ai C9 i (by rw [Ci];exact zl) l2 ⟨b2,0,none⟩ hc2w (by omega) l2.length (i+l2.length+(l.length - j) - i) (by simp only [Nat.min_def];split <;> omega)
  have K0:zM zcV 1 w2.drew (some ⟨g,j,none⟩) (l.length - j) (l.drop j):=by
   refine EG.same (S:=fun j=> j=g) (fun b' o' e'=> by cases e';rfl) (fun j hj=> ?_)
   subst hj;exact (A9.block j (by show j≠w.heap.size;omega)).trans (E7.block j BF)
  have DJ:((l.take i).take i++l2).length=i+l2.length:=by rw [List.take_take,Nat.min_self];exact hl2len
  obtain ⟨w3,KV,Gv,-,CA⟩:=zaX zE zbg (dT:=241) (sT:=241) Tryz.underlying241 AD Ai (w:=w2.drew) (B0.heap rfl) (i+l2.length) (by rw [DJ];exact zl) (l.drop j) ⟨g,j,none⟩ (zM.cells zE (by decide) K0) (by rw [BJ];omega) (l.length - j) (l.length - j) (by rw [BJ];simp)
  have AL:((l.take i).take i++l2).take (i+l2.length)++l.drop j=l.take i++(l2++l.drop j):=by
   rw [zk (by rw [DJ];exact zl),List.take_take,Nat.min_self,List.append_assoc]
  rw [AL] at Gv;have Af:=Gv.own zE (show B≤w.drew.heap.size from hB);rw [BG] at Af;have hg:w.grownBy w3 (some g):=⟨CA.os.trans (A9.os.trans Aa.os),CA.tape.trans (A9.tape.trans Aa.tape),CA.output.trans (A9.output.trans Aa.output),by rw [CA.size];show w.heap.size≤w2.heap.size;rw [A9.size,N4];omega,fun j hj Aj=> by
   rw [CA.block j (by show j≠w.heap.size;omega)]
   exact (A9.block j (by show j≠w.heap.size;omega)).trans (E7.block j hj)⟩
  have HR:=zh (zn Af hg);have LB:IntKind.i64.wrap (((i+l2.length+(l.length - j):Nat):Int) - (i:Int))=((i+l2.length+(l.length - j) - i:Nat):Int):=by rw [zw _ (by omega)];omega
  simp only [Nat.mul_one] at BK B7 KV;rw [BJ] at KV;have Pl:w.drew.heap.size=w.heap.size:=rfl;rw [Pl] at BK B7 KV HR;clear Pl;have Td:i+(i+l2.length+(l.length - j) - i)=i+l2.length+(l.length - j):=by omega
  rw [Td] at BK F9;have CR:¬cap1=i:=by omega
  have NE:¬cap1=i+l2.length:=by omega
  have kP:i+l2.length+(l.length - j) - (i+l2.length)=l.length - j:=by omega
  have kQ:(cap:Int) < ((i+l2.length+(l.length - j):Nat):Int):=by omega
  have Ta:i≤i+l2.length+(l.length - j):=by omega
  have Tb:i+l2.length≤i+l2.length+(l.length - j):=by omega
  have Tc:j≤l.length:=by omega
  clear h hR E6 EG C9 B0 Gv A9 CA Aa E7 hc2r hc2w Af AL AD AG Ai Ax Ci Bc h2 Ae Bd hb2s Aj DJ BG hl2len hg K0 FZ N4 Td;generalize hd:l.length - j=dj at *;generalize hn:l.length=n at *;generalize hm:l2.length=m at *;generalize Uj:i+m+dj=tot at *;generalize kF:i+m=im at *;go_enter Tryz.func150,Tryz.ntmps150;go_wp2_with fail
  go_region
  go_wp2_with (first
   | (at_builtin;refine za8 rfl _ _ _ _ rfl (BK _) ?_)
   | (at_builtin;refine zaE rfl _ _ _ _ rfl (B7 _ _ _) ?_))
  go_region_law (refine zaY rfl _ _ 241 241 rfl _ _ (by simp [Act.eval,Act.put];done) (by simp [Act.eval,Act.put]) (KV _ _ _) ?_)
  go_wp2_with fail;go_ret;exact ⟨_,rfl,HR.out⟩
end
section
open Go
section
variable {P:Program} {ops:Array Oper} {Q:Exit→Act→World→Prop} {md:Region.Mode} {H:Nat→World→Prop}
def ze2 (P:Program) (md:Region.Mode) (ops:Array Oper) (Q:Exit→Act→World→Prop) (H:Nat→World→Prop):Nat→Array Bool→Act→World→Prop
 | 0,listed,a,w=> Region.ready md ops listed= []∧Q .normal a w
 | fuel+1,listed,a,w=>
   (Region.ready md ops listed= []→Q .normal a w)∧
   ∀i ∈ Region.ready md ops listed,wpOp P ops Q i (fun a' w'=> H i w'∧ze2 P md ops Q H fuel (listed.setIfInBounds i true) a' w') a w
theorem zjG:∀(fuel:Nat) (listed:Array Bool) (a:Act) (w:World),ze2 P md ops Q H fuel listed a w→wpAny P md ops Q fuel listed a w
 | 0,_,_,_,h=> h
 | fuel+1,_,_,_,h=> ⟨h.1,fun i hi=> wpOp_mono (fun a' w' h'=> zjG fuel _ a' w' h'.2) (h.2 i hi)⟩
def zd0 (md:Region.Mode) (ops:Array Oper) (i:Nat):Nat→Nat→Bool
 | 0,_=> false
 | f+1,j=> match ops[j]? with
   | some o=> o.after.any fun e=> Region.binds md e && (e.on==i || zd0 md ops i f e.on)
   | none=> false
def zf1 (md:Region.Mode) (ops:Array Oper) (listed:Array Bool):Prop:=∀j o,ops[j]? =some o→listed.getD j false=true→∀e ∈ o.after,Region.binds md e=true→listed.getD e.on false=true
def zl4 (md:Region.Mode) (ops:Array Oper) (listed:Array Bool):Bool:=(List.range ops.size).all fun j=> !listed.getD j false || match ops[j]? with
 | some o=> o.after.all fun e=> !Region.binds md e || listed.getD e.on false
 | none=> true
theorem zeq {listed:Array Bool} (h:zl4 md ops listed=true):zf1 md ops listed:=fun j o ho hl e he hb=> by
 have h1:=List.all_eq_true.1 h j (List.mem_range.2 (Array.getElem?_eq_some_iff.1 ho).1);simp only [hl,ho,Bool.not_true,Bool.false_or] at h1;have h2:=Array.all_eq_true_iff_forall_mem.1 h1 e he
 simpa [hb] using h2
theorem zf1.set {listed:Array Bool} (hc:zf1 md ops listed) {i:Nat} (hi:i ∈ Region.ready md ops listed):zf1 md ops (listed.setIfInBounds i true):=fun j o ho hl e he hb=> by
 by_cases Et:j=i
 ·subst Et;obtain ⟨-,o',FJ,Bq⟩:=mem_ready.1 hi;rw [ho] at FJ
  cases FJ
  exact getD_set_true (Bq e he hb)
 ·rw [getD_set_ne false (Ne.symm Et)] at hl;exact getD_set_true (hc j o ho hl e he hb)
theorem zhk {i:Nat} {listed:Array Bool} (hc:zf1 md ops listed):∀(f j:Nat),zd0 md ops i f j=true→(∀o,ops[j]? =some o→∀e ∈ o.after,Region.binds md e=true→listed.getD e.on false=true)→listed.getD i false=true:=by
 intro f
 induction f with
 | zero=> intro j h;cases h
 | succ f ih=>
   intro j h hd;unfold zd0 at h
   cases ho:ops[j]? with
   | none=> rw [ho] at h;cases h
   | some o=>
     rw [ho] at h;obtain ⟨e,he,h2⟩:=Array.any_eq_true'.1 h;simp only [Bool.and_eq_true,Bool.or_eq_true,beq_iff_eq] at h2;have h3:=hd o ho e he h2.1;rcases h2.2 with h4 | h4
     ·rw [← h4];exact h3
     ·exact ih e.on h4 fun o' FJ=> hc e.on o' FJ h3
theorem zf5 {S:World→Prop} {i:Nat} {oi:Oper} {v:Value} {f:Nat} (hi:ops[i]? =some oi) (T4:∀(j:Nat) (o:Oper) cs b,ops[j]? =some o→o.op≠ .select cs b)
 (hQ:∀c a w,Q (.panic c) (a.put oi.dst v) w→Q (.panic c) a w) (jR:∀w,S w→H i w):
 ∀ (fuel:Nat) (listed:Array Bool) (a:Act) (w:World),
   (∀j oj,ops[j]? =some oj→j≠i→listed.getD j true=false→(∀e ∈ oj.after,Region.binds md e=true→e.on≠i)→oi.apart ops oj=true)→
   (∀j,listed.getD j true=true∨zd0 md ops i f j=true∨∀w,H j w→S w)→zf1 md ops listed→
   i ∈ Region.ready md ops listed→YieldsIf P ops S oi v a→S w→
   ze2 P md ops Q H fuel (listed.setIfInBounds i true) (a.put oi.dst v) w→ze2 P md ops Q H (fuel+1) listed a w:=by
 intro fuel
 induction fuel with
 | zero=>
   intro listed a w _ _ _ hr hy hS HH;refine ⟨fun h=> (by rw [h] at hr;cases hr),fun j hj=> ?_⟩
   by_cases Et:j=i
   ·subst Et;exact hy.wpOp hi hS ⟨jR _ hS,HH⟩
   ·have:=ready_mono hj Et;rw [HH.1] at this
    cases this
 | succ fuel ih=>
   intro listed a w GC jn AN hr hy hS HH;refine ⟨fun h=> (by rw [h] at hr;cases hr),fun j hj=> ?_⟩
   by_cases Et:j=i
   ·subst Et;exact hy.wpOp hi hS ⟨jR _ hS,HH⟩
   ·have h1:=HH.2 j (ready_mono hj Et);obtain ⟨Pz,oj,Vv,Bq⟩:=mem_ready.1 hj;have Qb:listed.getD i false≠true:=fun h1=> by
        have h0:=(mem_ready.1 hr).1;rcases Nat.lt_or_ge i listed.size with h' | h'
        ·simp [h'] at h0 h1;rw [h0] at h1;cases h1
        ·simp [Array.getElem?_eq_none h'] at h1
    have YO:∀e ∈ oj.after,Region.binds md e=true→e.on≠i:=fun e he hb yJ=> by
        have h1:=Bq e he hb;rw [yJ] at h1;exact Qb h1
    have yi:∀w,H j w→S w:=by
        rcases jn j with h | h | h
        ·rw [Pz] at h;cases h
        ·exact absurd (zhk AN f j h fun o ho=> by rw [Vv] at ho;cases ho;exact Bq) Qb
        ·exact h
    have h2:=wpOp_putIf Vv (GC j oj Vv Et Pz YO) (fun cs b=> T4 i oi cs b hi) (fun cs b=> T4 j oj cs b Vv) hQ hy h1;have NL:∀k,listed.getD k true=true→(listed.setIfInBounds j true).getD k true=true:=fun k hk=> by
        by_cases kN:j=k
        ·subst kN;rw [Pz] at hk;cases hk
        ·rw [getD_set_ne true kN];exact hk
    have Pr:∀k ok,ops[k]? =some ok→k≠i→(listed.setIfInBounds j true).getD k true=false→
     (∀ e ∈ ok.after,Region.binds md e=true→e.on≠i)→oi.apart ops ok=true:=fun k ok hk kS Qb Lv=> by
        refine GC k ok hk kS ?_ Lv
        cases hc:listed.getD k true with
        | false=> rfl
        | true=> rw [NL k hc] at Qb;cases Qb
    refine wpOp_mono (fun a' w' h3=> ⟨h3.2.1,ih (listed.setIfInBounds j true) a' w' Pr (fun k=> (jn k).imp (NL k) id) (AN.set hj) (ready_mono hr (Ne.symm Et)) h3.1 (yi _ h3.2.1) ?_⟩) h2;rw [Array.setIfInBounds_comm _ _ Et];exact h3.2.2
def zeM (late:List Nat) (S0 S1:World→Prop) (j:Nat) (w:World):Prop:=S0 w∧(late.contains j=false→S1 w)
variable {late:List Nat} {S0 S1:World→Prop}
def zlJ (md:Region.Mode) (ops:Array Oper) (late:List Nat) (listed:Array Bool) (i:Nat):Bool:=
 Region.noSelect ops && Region.free md ops listed i && (Region.ready md ops listed).contains i && zl4 md ops listed && (late.contains i || late.all fun j=> listed.getD j true || zd0 md ops i 8 j)
theorem zht {i:Nat} {oi:Oper} {v:Value} {fuel:Nat} {listed:Array Bool} {a:Act} {w:World} (hi:ops[i]? =some oi)
 (hb:zlJ md ops late listed i=true) (hQ:∀c a w,Q (.panic c) (a.put oi.dst v) w→Q (.panic c) a w)
 (hy:if late.contains i=true then YieldsIf P ops S0 oi v a else YieldsIf P ops (fun w=> S0 w∧S1 w) oi v a) (hS:if late.contains i=true then S0 w else S0 w∧S1 w)
 (h:ze2 P md ops Q (zeM late S0 S1) fuel (listed.setIfInBounds i true) (a.put oi.dst v) w):ze2 P md ops Q (zeM late S0 S1) (fuel+1) listed a w:=by
 simp only [zlJ,Bool.and_eq_true] at hb;obtain ⟨⟨⟨⟨hs,hf⟩,hr⟩,hc⟩,hw⟩:=hb
 cases hl:late.contains i with
 | true=>
   rw [if_pos hl] at hy hS;exact zf5 (f:=0) hi (Region.noSelect_spec hs) hQ (fun w hw=> ⟨hw,fun e=> by rw [hl] at e;cases e⟩) fuel listed a w (Region.free_spec hi hf) (fun _=> .inr (.inr fun _ h=> h.1)) (zeq hc) (by simpa using hr) hy hS h
 | false=>
   rw [if_neg (by rw [hl];decide)] at hy hS
   rw [hl,Bool.false_or] at hw;refine zf5 (f:=8) hi (Region.noSelect_spec hs) hQ (fun w hw=> ⟨hw.1,fun _=> hw.2⟩) fuel listed a w (Region.free_spec hi hf) (fun j=> ?_) (zeq hc) (by simpa using hr) hy hS h
   cases hj:late.contains j with
   | true=>
     have:=List.all_eq_true.1 hw j (by simpa using hj)
     rw [Bool.or_eq_true] at this;exact this.imp id .inl
   | false=> exact .inr (.inr fun _ h=> ⟨h.1,h.2 hj⟩)
theorem zdd (i:Nat) (d:Option Nat) {oi:Oper} {v:Value} {fuel:Nat} {listed:Array Bool} {a:Act} {w:World} (hi:ops[i]? =some oi) (hd:oi.dst=d) (hl:late.contains i=true)
 (hb:zlJ md ops late listed i=true) (hQ:∀c a w,Q (.panic c) (a.put d v) w→Q (.panic c) a w) (hS:S0 w) (hy:YieldsIf P ops S0 oi v a)
 (h:ze2 P md ops Q (zeM late S0 S1) fuel (listed.setIfInBounds i true) (a.put d v) w):ze2 P md ops Q (zeM late S0 S1) (fuel+1) listed a w:=by
 subst hd;exact zht hi hb hQ (by rw [if_pos hl];exact hy) (by rw [if_pos hl];exact hS) h
theorem zaa (i:Nat) (d:Option Nat) {oi:Oper} {v:Value} {fuel:Nat} {listed:Array Bool} {a:Act} {w:World} (hi:ops[i]? =some oi) (hd:oi.dst=d) (hl:late.contains i=false)
 (hb:zlJ md ops late listed i=true) (hQ:∀c a w,Q (.panic c) (a.put d v) w→Q (.panic c) a w) (hS:S0 w∧S1 w) (hy:YieldsIf P ops (fun w=> S0 w∧S1 w) oi v a)
 (h:ze2 P md ops Q (zeM late S0 S1) fuel (listed.setIfInBounds i true) (a.put d v) w):ze2 P md ops Q (zeM late S0 S1) (fuel+1) listed a w:=by
 subst hd;exact zht hi hb hQ (by rw [if_neg (by rw [hl];decide)];exact hy) (by rw [if_neg (by rw [hl];decide)];exact hS) h
theorem zjF {rs:List Nat} {fuel:Nat} {listed:Array Bool} {a:Act} {w:World} (hr:Region.ready md ops listed=rs) (Aj:rs≠ [])
 (h:∀i ∈ rs,wpOp P ops Q i (fun a' w'=> H i w'∧ze2 P md ops Q H fuel (listed.setIfInBounds i true) a' w') a w):ze2 P md ops Q H (fuel+1) listed a w:=
 ⟨fun h0=> absurd (hr ▸ h0) Aj,hr ▸ h⟩
theorem zd {i:Nat} {o:Oper} {fuel:Nat} {listed:Array Bool} {a:Act} {w:World} (hr:Region.ready md ops listed= [i]) (ho:ops[i]? =some o)
 (h:∀K':Act→World→Prop,Shut (∀a w,H i w→ze2 P md ops Q H fuel (listed.setIfInBounds i true) a w→K' a w)→if Region.wanted o (yielded ops a.tmps)=true then Oper.wp P o a w K' Q else K' (a.put o.dst undef) w):ze2 P md ops Q H (fuel+1) listed a w:=
 zjF hr (by simp) fun j hj=> by
  rw [List.mem_singleton] at hj;subst hj;exact wpOp_step ho (fun K' hK=> h K' (fun a w h1 h2=> hK a w ⟨h1,h2⟩))
theorem zbq {i i':Nat} {o o':Oper} {fuel:Nat} {listed:Array Bool} {a:Act} {w:World} (hr:Region.ready md ops listed= [i,i']) (ho:ops[i]? =some o) (FJ:ops[i']? =some o')
 (h:∀K':Act→World→Prop,Shut (∀a w,H i w→ze2 P md ops Q H fuel (listed.setIfInBounds i true) a w→K' a w)→if Region.wanted o (yielded ops a.tmps)=true then Oper.wp P o a w K' Q else K' (a.put o.dst undef) w)
 (h':∀K':Act→World→Prop,Shut (∀a w,H i' w→ze2 P md ops Q H fuel (listed.setIfInBounds i' true) a w→K' a w)→if Region.wanted o' (yielded ops a.tmps)=true then Oper.wp P o' a w K' Q else K' (a.put o'.dst undef) w):ze2 P md ops Q H (fuel+1) listed a w:=
 zjF hr (by simp) fun j hj=> by
  rcases List.mem_cons.1 hj with rfl | hj
  ·exact wpOp_step ho (fun K' hK=> h K' (fun a w h1 h2=> hK a w ⟨h1,h2⟩))
  ·rw [List.mem_singleton] at hj;subst hj;exact wpOp_step FJ (fun K' hK=> h' K' (fun a w h1 h2=> hK a w ⟨h1,h2⟩))
theorem zI {listed:Array Bool} {a:Act} {w:World} (hr:Region.ready md ops listed= []) (h:Q .normal a w):∀fuel,ze2 P md ops Q H fuel listed a w
 | 0=> ⟨hr,h⟩
 | _+1=> ⟨fun _=> h,by rw [hr];simp⟩
theorem zy {id:Nat} {a:Act} {w:World} (hm:P.follows .mixedOrders=true) (late:List Nat) (S0 S1:World→Prop)
 (h:ze2 P .any ops Q (zeM late S0 S1) ops.size (Array.replicate ops.size false) a w.drew):(Code.region id ops true).wp P Q a w:=
 wp_region_any hm (zjG _ _ _ _ h)
end
section
variable {P:Program} {ops:Array Oper} {Q:Exit→Act→World→Prop} {md:Region.Mode} {late:List Nat} {S0 S1:World→Prop}
theorem tL (i:Nat) {d:Option Nat} {oi:Oper} {v:Value} {fuel:Nat} {listed:Array Bool} {a a':Act} {w:World} (hS:S0 w)
 (h:ze2 P md ops Q (zeM late S0 S1) fuel (listed.setIfInBounds i true) a' w) (hi:ops[i]? =some oi:=by rfl) (hd:oi.dst=d:=by rfl) (hl:late.contains i=true:=by decide)
 (hb:zlJ md ops late listed i=true:=by kernel_rfl) (hw:Region.wanted oi (yielded ops a.tmps)=true:=by rfl) (hy:∀w',S0 w'→(execOp a.eval oi).run P w'= .ok (.value v) w':=by (intro w' O4;(repeat (have yo:=And.left O4;replace O4:=And.right O4));go_simp;try with_reducible rfl))
 (ha:a.put d v=a':=by (try simp only [Act.put,List.setIfInBounds_toArray,List.set_cons_zero,List.set_cons_succ]);try rfl) (hQ:∀c a w,Q (.panic c) (a.put d v) w→Q (.panic c) a w:=by exact fun _ _ _ h=> h):ze2 P md ops Q (zeM late S0 S1) (fuel+1) listed a w:=
 zdd i d hi hd hl hb hQ hS (.inl ⟨hw,hy⟩) (ha ▸ h)
theorem tS (i:Nat) {d:Option Nat} {oi:Oper} {v:Value} {fuel:Nat} {listed:Array Bool} {a a':Act} {w:World} (hS:S0 w∧S1 w)
 (h:ze2 P md ops Q (zeM late S0 S1) fuel (listed.setIfInBounds i true) a' w) (hi:ops[i]? =some oi:=by rfl) (hd:oi.dst=d:=by rfl) (hl:late.contains i=false:=by decide)
 (hb:zlJ md ops late listed i=true:=by kernel_rfl) (hw:Region.wanted oi (yielded ops a.tmps)=true:=by rfl) (hy:∀w',S0 w'∧S1 w'→(execOp a.eval oi).run P w'= .ok (.value v) w':=by (intro w' O4;(repeat (have yo:=And.left O4;replace O4:=And.right O4));go_simp;try with_reducible rfl))
 (ha:a.put d v=a':=by (try simp only [Act.put,List.setIfInBounds_toArray,List.set_cons_zero,List.set_cons_succ]);try rfl) (hQ:∀c a w,Q (.panic c) (a.put d v) w→Q (.panic c) a w:=by exact fun _ _ _ h=> h):ze2 P md ops Q (zeM late S0 S1) (fuel+1) listed a w:=
 zaa i d hi hd hl hb hQ hS (.inl ⟨hw,hy⟩) (ha ▸ h)
end
end
end Go.Proofs.YtfldlfladcfggaaGreat
