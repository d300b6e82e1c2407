/- Lemmas of the walks, merged and pressed by press.py. Conditions: those of each theorem. -/
import Derived.Test.YtfldlfladcfggaaGreatM34
import Derived.ProofKit
import Derived.OpenShut
import Derived.Lib.SmallJoins
import Derived.Deep.Slices
import Derived.Deep.Fields
import Derived.ChangeSame
set_option maxRecDepth 100000
set_option maxHeartbeats 64000000
set_option linter.all false
namespace Go.Proofs.YtfldlfladcfggaaGreat
section
open Go.RowKit Go.WideShapes Go.ChangeShapes Go.Joins Go.Deep
theorem zp9 {α:Type} {P:Nat→α→Prop}:∀{n:Nat},(∀i,i < n→∃q,P i q)→∃l:List α,l.length=n∧∀i x,l[i]? =some x→P i x
 | 0,_=> ⟨[],rfl,fun i x h=> by simp at h⟩
 | n + 1,h=> by
   obtain ⟨l,hl,hx⟩:=zp9 (n:=n) (fun i hi=> h i (by omega))
   obtain ⟨q,hq⟩:=h n (by omega)
   refine ⟨l++ [q],by simp [hl],fun i x hi=> ?_⟩
   rw [List.getElem?_append] at hi
   split at hi
   ·exact hx i x hi
   ·have G8:i=n:=by
       rcases Nat.lt_or_ge (i - l.length) 1 with h1 | h1
       ·omega
       ·rw [List.getElem?_eq_none (by simpa using h1)] at hi;cases hi
    subst G8;rw [hl,Nat.sub_self] at hi;simp at hi;subst hi;exact hq
theorem zqe {x:Int} (h:(Lit.int .i64 x).wf=true):x≤9223372036854775807:=by
 simp [Lit.wf,IntKind.min,IntKind.max,IntKind.signed,IntKind.bits] at h
 omega
theorem wfu {x:Int} (h:(Lit.int .u64 x).wf=true):0≤x∧x < 18446744073709551616:=by
 simp [Lit.wf,IntKind.min,IntKind.max,IntKind.signed,IntKind.bits] at h
 omega
theorem addO (b o n:Nat):(⟨b,o,none⟩:Addr).add n=⟨b,o+n,none⟩:=by unfold Addr.add;split <;> simp_all
section
variable {H:Type} {enc:TypeId × Value→H} {w:World} {fuel:Nat} {cs:List Value} {x:DataW H × List MemPlace}
theorem zp5 {fs:Array Field} {n:Nat} {ys:List (DataW H × List MemPlace)} (qw:ys.length=fs.size) (EP:∀(j:Nat) (f:Field),fs[j]? =some f→DataW.trod enc Tryz.prog w 0 (fun _=> true) true n f.type ((cs.drop f.offset).take (Tryz.prog.cellsOf f.type))=ys[j]?)
 (j:Nat) (f:Field) (hj:fs[j]? =some f) {k:IntKind} (hk:Tryz.prog.underlying f.type=some (.int k)) (v:Value) (hv:(cs.drop f.offset).take (Tryz.prog.cellsOf f.type)= [v]):∃z,v= .int k z∧(Lit.int k z).wf=true:=by
 have q:=EP j f hj;rw [hv,ze (by rw [qw];exact (zg hj).1)] at q
 obtain ⟨z,e,-,wf⟩:=DataW.trod_int hk q;simp only [List.cons.injEq,and_true] at e;exact ⟨z,e,wf⟩
theorem fany {fs:Array Field} {n:Nat} {ys:List (DataW H × List MemPlace)} (qw:ys.length=fs.size) (EP:∀(j:Nat) (f:Field),fs[j]? =some f→DataW.trod enc Tryz.prog w 0 (fun _=> true) true n f.type ((cs.drop f.offset).take (Tryz.prog.cellsOf f.type))=ys[j]?)
 (j:Nat) (f:Field) (hj:fs[j]? =some f) (v:List Value) (hv:(cs.drop f.offset).take (Tryz.prog.cellsOf f.type)=v):∃y,DataW.trod enc Tryz.prog w 0 (fun _=> true) true n f.type v=some y:=by
 have q:=EP j f hj;rw [hv,ze (by rw [qw];exact (zg hj).1)] at q
 exact ⟨_,q⟩
theorem zp8 {t e:TypeId} {k:IntKind} (ht:Tryz.prog.underlying t=some (.slice e)) (he:Tryz.prog.underlying e=some (.int k)) (F9:Tryz.prog.cellsOf e=1) (h:DataW.trod enc Tryz.prog w 0 (fun _=> true) true fuel t cs=some x):
 ∃(a:Option Addr) (c:Nat) (zs:List Int),cs= [.slice a zs.length c]∧(∀i z,zs[i]? =some z→∃b o,a=some ⟨b,o,none⟩∧w.cell? ⟨b,o+i,none⟩=some (.int k z))∧∀z ∈ zs,(Lit.int k z).wf=true:=by
 rcases open_slice ht h with ⟨Fo,_⟩ | ⟨a,len,cap,m,n,D,Pl,Fo,_,hl,hm,Tw,_,hx⟩
 ·exact ⟨none,0, [],Fo,fun i z hi=> by simp at hi,fun z hz=> by cases hz⟩
 ·simp only [if_true] at Tw;have hv:∀i,i < len→∃p:Int,w.cell? (a.add i)=some (.int k p)∧(Lit.int k p).wf=true:=fun i hi=> by
   obtain ⟨cs',hc,N5⟩:=hx i (by omega)
   rw [F9,Nat.mul_one] at hc;obtain ⟨z,e,-,wf⟩:=DataW.trod_int he N5;obtain ⟨_,AN,AF⟩:=World.cells?_some hc;have:=AF 0 (by omega)
   rw [Go.Deep.add_add,Nat.add_zero,e] at this;exact ⟨z,this,wf⟩
  obtain ⟨ps,AQ,cK⟩:=zp9 hv;refine ⟨some a,cap,ps,by rw [AQ];exact Fo,fun i p hi=> ?_,fun z hz=> ?_⟩
  ·have h1:=(cK i p hi).1;have De:=(zi hi).1;have h0:=(cK 0 _ (ze (by omega))).1
   obtain ⟨b,o,spot⟩:=a;have cJ:spot=none:=by simpa [Addr.add] using World.cell?_spot h0
   subst cJ;rw [addO] at h1;exact ⟨b,o,rfl,h1⟩
  ·obtain ⟨i,hi⟩:=List.getElem?_of_mem hz;exact (cK i z hi).2
theorem zqb:∃f0 f1 f2 f3 f4 f5 f6 f7:Field,Tryz.prog.underlying 28=some (.struct #[f0,f1,f2,f3,f4,f5,f6,f7])∧(f0.offset=0∧f1.offset=1∧f2.offset=2∧f3.offset=3∧f4.offset=4∧f5.offset=5∧f6.offset=6∧f7.offset=7)∧
 f0.type=3∧f1.type=3∧f2.type=3∧f3.type=3∧f4.type=3∧f5.type=24∧f6.type=25∧f7.type=26:=⟨_,_,_,_,_,_,_,_,Tryz.underlying28,⟨rfl,rfl,rfl,rfl,rfl,rfl,rfl,rfl⟩,rfl,rfl,rfl,rfl,rfl,rfl,rfl,rfl⟩
theorem cOp:Tryz.prog.cellsOf 28=8:=by kernel_rfl
theorem cI:Tryz.prog.cellsOf 3=1:=by kernel_rfl
theorem cU:Tryz.prog.cellsOf 24=1:=by kernel_rfl
theorem cB:Tryz.prog.cellsOf 5=1:=by kernel_rfl
theorem cBs:Tryz.prog.cellsOf 25=1:=by kernel_rfl
theorem cIs:Tryz.prog.cellsOf 26=1:=by kernel_rfl
theorem op40 (AN:cs.length=8) (h:DataW.trod enc Tryz.prog w 0 (fun _=> true) true fuel 28 cs=some x):∃z:Oq,cs=zp6 z∧zpD w z:=by
 obtain ⟨f0,f1,f2,f3,f4,f5,f6,f7,hs,⟨o0,o1,o2,o3,o4,o5,o6,o7⟩,t0,t1,t2,t3,t4,t5,t6,t7⟩:=zqb;obtain ⟨ys,n',-,-,-,qw,EP⟩:=DataW.trod_struct hs h
 match cs,AN with
 | [c0, c1,c2,c3,c4,c5,c6,c7],_=>
   obtain ⟨k,rfl,-⟩:=zp5 qw EP 0 f0 rfl (by rw [t0];exact Tryz.underlying3) c0 (by rw [o0,t0,cI];rfl)
   obtain ⟨v,rfl,wv⟩:=zp5 qw EP 1 f1 rfl (by rw [t1];exact Tryz.underlying3) c1 (by rw [o1,t1,cI];rfl)
   obtain ⟨i,rfl,wi⟩:=zp5 qw EP 2 f2 rfl (by rw [t2];exact Tryz.underlying3) c2 (by rw [o2,t2,cI];rfl)
   obtain ⟨b,rfl,wb⟩:=zp5 qw EP 3 f3 rfl (by rw [t3];exact Tryz.underlying3) c3 (by rw [o3,t3,cI];rfl)
   obtain ⟨m,rfl,wm⟩:=zp5 qw EP 4 f4 rfl (by rw [t4];exact Tryz.underlying3) c4 (by rw [o4,t4,cI];rfl)
   obtain ⟨p,rfl,wp⟩:=zp5 qw EP 5 f5 rfl (by rw [t5];exact Tryz.underlying24) c5 (by rw [o5,t5,cU];rfl)
   obtain ⟨y6,h6⟩:=fany qw EP 6 f6 rfl [c6] (by rw [o6,t6,cBs];rfl)
   obtain ⟨y7,h7⟩:=fany qw EP 7 f7 rfl [c7] (by rw [o7,t7,cIs];rfl)
   rw [t6] at h6;rw [t7] at h7;obtain ⟨da,dc,zs,e6,hz,wz⟩:=zp8 Tryz.underlying25 Tryz.underlying5 cB h6;obtain ⟨ma,mc,ms,e7,hm,-⟩:=zp8 Tryz.underlying26 Tryz.underlying3 cI h7;simp only [List.cons.injEq,and_true] at e6 e7;subst e6 e7;have Tu:(zs.map fun z=> UInt8.ofNat z.toNat).map (fun c=> (c.toNat:Int))=zs:=by
    rw [List.map_map];refine (List.map_congr_left (g:=id) fun z hz=> ?_).trans (List.map_id zs);have h:=wz z hz;simp [Lit.wf,IntKind.min,IntKind.max,IntKind.signed,IntKind.bits] at h;have h1:z.toNat < 256:=by omega
    simp only [Function.comp,id,UInt8.toNat_ofNat'];rw [Nat.mod_eq_of_lt (by simpa using h1)]
    omega
   refine ⟨⟨⟨k,v,i,b,m,p,zs.map fun z=> UInt8.ofNat z.toNat,ms⟩,da,dc,ma,mc⟩,by simp [zp6], ?_, ?_,⟨zqe wv,zqe wi,zqe wb,zqe wm⟩,wfu wp⟩
   ·show Sl w da _ _
    simp only;rw [Tu];refine ⟨by simp,fun j y hy=> ?_⟩
    rw [List.getElem?_map] at hy;obtain ⟨z,Ai,rfl⟩:=Option.map_eq_some_iff.1 hy;exact hz j z Ai
   ·refine ⟨rfl,fun j z hj=> ?_⟩;obtain ⟨g,o,e,hc⟩:=hm j z hj;refine ⟨g,o,e,fun j' y hy=> ?_⟩;have MA:j'=0:=by
        have:=(zi hy).1;simp [zcm] at this;exact this
    subst MA;simp [zcm] at hy;subst hy
    simpa using hc
theorem zqd {v:Value} (h:DataW.trod enc Tryz.prog w 0 (fun _=> true) true fuel 22 [v]=some x):∃a n c l,v= .slice a n c∧zoW w a n l:=by
 rcases open_slice Tryz.underlying22 h with ⟨Fo,_⟩ | ⟨a,len,cap',m,k,D,Pl,Fo,_,hl,hm,Tw,_,hx⟩
 ·simp only [List.cons.injEq,and_true] at Fo;exact ⟨none,0,0, [],Fo,zM.nil zp6 8 _ _,fun o ho=> by cases ho⟩
 ·simp only [List.cons.injEq,and_true] at Fo;simp only [if_true] at Tw;have hv:∀i,i < len→∃o:Oq,(∀j y,(zp6 o)[j]? =some y→w.cell? (a.add (i * 8+j))=some y)∧zpD w o:=fun i hi=> by
   obtain ⟨cs',hc,N5⟩:=hx i (by omega)
   rw [cOp] at hc;obtain ⟨_,AN,AF⟩:=World.cells?_some hc;obtain ⟨o,rfl,Fv⟩:=op40 AN N5;refine ⟨o,fun j y hy=> ?_,Fv⟩;have:=AF j (by have:=(zi hy).1;rw [zp7] at this;exact this)
   rw [Go.Deep.add_add] at this;rw [this];exact hy
  obtain ⟨l,EF,YD⟩:=zp9 hv;refine ⟨some a,len,cap',l,Fo,⟨EF,fun i o hi=> ?_⟩,fun o ho=> ?_⟩
  ·obtain ⟨h1,-⟩:=YD i o hi;have De:=(zi hi).1;have Em:=(YD 0 _ (ze (by omega))).1 0 _ rfl
   obtain ⟨b,of,spot⟩:=a;have cJ:spot=none:=by simpa [Addr.add] using World.cell?_spot Em
   subst cJ;refine ⟨b,of,rfl,fun j y hy=> ?_⟩;have:=h1 j y hy;rw [addO,← Nat.add_assoc] at this;exact this
  ·obtain ⟨i,hi⟩:=List.getElem?_of_mem ho;exact (YD i o hi).2
variable {base:Nat} {r:Reach} {v:Value} {d:DataW H} {p:List MemPlace}
end
end
end Go.Proofs.YtfldlfladcfggaaGreat
