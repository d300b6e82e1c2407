/- Lemmas of the walks, merged and pressed by press.py. Conditions: those of each theorem. -/
import Derived.Test.YtaoceecfjlkmdaaGreatProg
import Derived.WalkKit
import Derived.WalkSpells
import Derived.WalkLawsBesides
import Derived.Laws.BitsAllLaws
import Derived.BigQuiet
import Derived.Deep.QuietTactic
import Derived.Lib.Hide
import Derived.Laws.IdiomStrings
set_option maxRecDepth 100000
set_option maxHeartbeats 64000000
set_option linter.all false
namespace Go.Proofs.YtaoceecfjlkmdaaGreat
open Tryz
variable {ks:List Nat} {B b base c d i k lo n size:Nat} {a:Option Addr} {row:Option Nat} {e t:TypeId} {v v0 v1 v2 v3 v4 v5 v6 v7 v8:Value} {w w' w0:World}
section
instance:CoeFun World (fun _=> Addr→Option Value):=⟨World.cell?⟩
instance:CoeFun Nat (fun _=> Nat→Option Nat→Addr):=⟨Addr.mk⟩
instance:Coe World Nat:=⟨fun w=> w.heap.size⟩
instance:Coe Int Value:=⟨fun x=> .int .i64 x⟩
instance:Coe Nat Value:=⟨fun x=> .int .i64 (x:Int)⟩
instance:Coe (Option Addr) Value:=⟨.pointer⟩
instance:Coe Nat Addr:=⟨fun p=> ⟨p,0,none⟩⟩
instance {α:Type}:Coe Unit (Option α):=⟨fun _=> none⟩
inductive Ztb|a
inductive Ztc|a
inductive Zti|a
inductive Ztu|a
inductive Ztv|a
inductive Ztt|a
inductive Ztw|a
inductive Zts|a
inductive Ztp|a
inductive Ztr|a
instance:CoeFun Ztb (fun _=> Nat→World→World→Prop):=⟨fun _=> Go.RowKit.Below⟩
instance:CoeFun Ztc (fun _=> FuncId→Array Value→World→(Ending→World→Prop)→Prop):=⟨fun _=> Calls Tryz.prog⟩
instance:CoeFun Zti (fun _=> Int→Value):=⟨fun _=> .int .i64⟩
instance:CoeFun Ztu (fun _=> Int→Value):=⟨fun _=> .int .u64⟩
instance:CoeFun Ztv (fun _=> Int→Value):=⟨fun _=> .int .u32⟩
instance:CoeFun Ztt (fun _=> Int→Value):=⟨fun _=> .int .u16⟩
instance:CoeFun Ztw (fun _=> Int→Value):=⟨fun _=> .int .u8⟩
instance:CoeFun Zts (fun _=> Option Addr→Nat→Nat→Value):=⟨fun _=> .slice⟩
instance:CoeFun Ztp (fun _=> Option Addr→Value):=⟨fun _=> .pointer⟩
instance:CoeFun Ztr (fun _=> Value→Ending):=⟨fun _=> .returned⟩
def θ:Ztb:=.a
def χ:Ztc:=.a
def ι:Zti:=.a
def υ:Ztu:=.a
def ν:Ztv:=.a
def τ:Ztt:=.a
def ω:Ztw:=.a
def σ:Zts:=.a
def π:Ztp:=.a
def ρ:Ztr:=.a
theorem zSs:(∀(α:Type) (l:List α) (i:Nat) (a:α),l.toArray.setIfInBounds i a=(l.set i a).toArray)∧(∀(α:Type) (x:α) (xs:List α) (a:α),(x::xs).set 0 a=a::xs)∧∀(α:Type) (x:α) (xs:List α) (i:Nat) (a:α),(x::xs).set (i+1) a=x::xs.set i a:=⟨fun _ _ _ _=> by simp,fun _ _ _ _=> rfl,fun _ _ _ _ _=> rfl⟩
theorem ud{p:Prop}(h:p:=by omega):p:=h
theorem ue{p:Prop}(h:p:=by kernel_rfl):p:=h
theorem uf{p:Prop}(h:p:=by decide):p:=h
theorem ug{p:Prop}(h:p:=by first | (simp [Act.eval];done) | (simp [Act.eval,Act.put];done)):p:=h
theorem uh{p:Prop}(h:p:=by simp):p:=h
theorem ui{p:Prop}(h:p:=by have:=Ak.out.2.1;omega):p:=h
theorem uj{p:Prop}(h:p:=by have:=HL.out;omega):p:=h
theorem ul{p:Prop}(h:p:=by first | exact Az.out | exact Az.out.drew | exact Az.out.drewN _):p:=h
theorem uo{p:Prop}(h:p:=by simp;omega):p:=h
theorem uq{p:Prop}(h:p:=by have:=HB.out;omega):p:=h
theorem ur{p:Prop}(h:p:=by unfold maxLen;omega):p:=h
theorem us{p:Prop}(h:p:=by first | rfl | (simp [Act.eval,Act.put];done)):p:=h
theorem ut{p:Prop}(h:p:=by first | rfl | simp [Act.eval,Act.put]):p:=h
theorem uu{p:Prop}(h:p:=by simp [Chg.nil]):p:=h
theorem uv{p:Prop}(h:p:=by have:=HB.out;have:=Cp.out;omega):p:=h
theorem uw{p:Prop}(h:p:=by rw [World.alloc_size];omega):p:=h
theorem ux{p:Prop}(h:p:=by have:=HB.out;have:=Cp.out;have:=HG.out;have:=F6.out;omega):p:=h
theorem uy{p:Prop}(h:p:=by have:=HI.out;omega):p:=h
theorem uz{p:Prop}(h:p:=by rw [Array.size_setIfInBounds];omega):p:=h
theorem uA{p:Prop}(h:p:=by simp [Act.eval]):p:=h
theorem uB{p:Prop}(h:p:=by rw [zk (by have:=HL.out;omega)];exact hy):p:=h
theorem uC{p:Prop}(h:p:=by have:=HB.out;have:=FA.out;omega):p:=h
theorem uD{p:Prop}(h:p:=by have:=HR.out;have:=HB.out;omega):p:=h
theorem uE{p:Prop}(h:p:=by have:=HB.out;have:=Cp.out;have:=F6.out;omega):p:=h
theorem uF{p:Prop}(h:p:=by simp only [ne_eq,Option.some.injEq];exact fun h=> Jf.1 (by first | exact h | exact h.symm)):p:=h
theorem uG{p:Prop}(h:p:=by have:=HC.out.2.1;omega):p:=h
theorem uH{p:Prop}(h:p:=by first | with_reducible exact Hv | with_reducible exact DF | with_reducible exact As):p:=h
theorem uI{p:Prop}(h:p:=by have:=HB.out;have:=FB.out;have:=M3.out;have:=J9.out;have:=Qv.out;have:=Rt.out;omega):p:=h
theorem uJ{p:Prop}(h:p:=by rw [e]):p:=h
theorem uK{p:Prop}(h:p:=by rw [← hc.booksE];exact List.mem_map.2 ⟨x,hx,rfl⟩):p:=h
theorem uL{p:Prop}(h:p:=by rw [List.getElem?_append_right zl];simp):p:=h
theorem uM{p:Prop}(h:p:=by first | omega | (rw [Cz.out.2.1];omega)):p:=h
theorem uN{p:Prop}(h:p:=by have:=HV.out;omega):p:=h
theorem uO{p:Prop}(h:p:=by simp [Act.eval,Act.put];done):p:=h
theorem uP{p:Prop}(h:p:=by rw [BJ];omega):p:=h
theorem uQ{p:Prop}(h:p:=by rw [Ax];omega):p:=h
theorem uR{p:Prop}(h:p:=by have:=HB.out;have:=FB.out;have:=J9.out;omega):p:=h
theorem uS{p:Prop}(h:p:=by have:=HX.out;have:=HR.out;have:=HB.out;omega):p:=h
theorem uT{p:Prop}(h:p:=by have:=HB.out;have:=HK.out;omega):p:=h
theorem uU{p:Prop}(h:p:=by have:=HB.out;have:=HQ.out;omega):p:=h
theorem uW{p:Prop}(h:p:=by have:=HB.out;have:=FB.out;omega):p:=h
theorem uX{p:Prop}(h:p:=by simp [Act.eval,Act.put]):p:=h
theorem uY{p:Prop}(h:p:=by rw [List.getElem?_map,List.getElem?_eq_getElem (by omega)];rfl):p:=h
theorem uZ{p:Prop}(h:p:=by simp only [Nat.min_def];split <;> omega):p:=h
theorem uaa{p:Prop}(h:p:=by have:=hF.lo;omega):p:=h
theorem uab{p:Prop}(h:p:=by show w.heap.size < w0.heap.size;omega):p:=h
theorem uac{p:Prop}(h:p:=by rw [HC.out.2];have:=of_decide_eq_true HC.out.1;simp;omega):p:=h
theorem uad{p:Prop}(h:p:=by have:=HC.out.2.1;have:=HL.out.1;omega):p:=h
theorem uae{p:Prop}(h:p:=by show k≠w.heap.size;omega):p:=h
theorem uaf{p:Prop}(h:p:=by have:=HF.out.2;have:=HL.out.1;omega):p:=h
theorem uag{p:Prop}(h:p:=by have:=H.out.2;omega):p:=h
theorem uah{p:Prop}(h:p:=by simp only;omega):p:=h
theorem uai{p:Prop}(h:p:=by have h9:=AS.out.2.2.2.1;rw [Hh.out] at h9;exact h9):p:=h
theorem uaj{p:Prop}(h:p:=by have:=HN.out;omega):p:=h
theorem uak{p:Prop}(h:p:=by have:=HK.out;omega):p:=h
theorem ual{p:Prop}(h:p:=by unfold Ct.size;rw [Io.out,hx];exact ⟨rfl,rfl⟩):p:=h
theorem uam{p:Prop}(h:p:=by simp only [Nat.min_def];split <;> simp <;> omega):p:=h
theorem uan{p:Prop}(h:p:=by simpa using h0):p:=h
theorem uao{p:Prop}(h:p:=by simpa using h1):p:=h
theorem uap{p:Prop}(h:p:=by have:=HB.out;have:=HI.out;omega):p:=h
theorem uaq{p:Prop}(h:p:=by have:=HD.out;have:=Hi.out;omega):p:=h
theorem uar{p:Prop}(h:p:=by have:=By.out.2;have:=Ff.out.2.1.outs.size;omega):p:=h
theorem uas{p:Prop}(h:p:=by rw [t0];exact Tryz.underlying3):p:=h
theorem uat{p:Prop}(h:p:=by rw [t1];exact Tryz.underlying3):p:=h
theorem uau{p:Prop}(h:p:=by first | exact h | exact h.symm):p:=h
theorem uav{p:Prop}(h:p:=by have:=H3.out.2.size;have:=Ak.out.1.size;omega):p:=h
theorem uaw{p:Prop}(h:p:=by rw [List.length_append];omega):p:=h
theorem uax{p:Prop}(h:p:=by rw [← Ld];exact Below.heap_alloc _ _ _ hlt):p:=h
theorem uay{p:Prop}(h:p:=by have:=HK.out.1;omega):p:=h
theorem uaz{p:Prop}(h:p:=by show B < w0.heap.size;omega):p:=h
theorem uba{p:Prop}(h:p:=by rw [← e];exact hj):p:=h
theorem ubb{p:Prop}(h:p:=by show j≠w.heap.size;omega):p:=h
theorem ubc{p:Prop}(h:p:=by simpa using hx):p:=h
theorem ubd{p:Prop}(h:p:=by cases hr;omega):p:=h
theorem ube{p:Prop}(h:p:=by have:=OA.out;omega):p:=h
theorem ubf{p:Prop}(h:p:=by have:=m.lt.1;omega):p:=h
theorem ubg{p:Prop}(h:p:=by simp [hz]):p:=h
theorem ubh{p:Prop}(h:p:=by rw [Lj.out];omega):p:=h
theorem ubi{p:Prop}(h:p:=by have:=Ds.out.2.1;omega):p:=h
theorem ubj{p:Prop}(h:p:=by first | rfl | trivial):p:=h
theorem ubk{p:Prop}(h:p:=by simpa using hq):p:=h
theorem ubl{p:Prop}(h:p:=by simpa using e):p:=h
theorem ubm{p:Prop}(h:p:=by rw [h]):p:=h
abbrev En:=Nat × Nat
def zac (l:List En):Prop:=l.Pairwise fun a b=> a.1 < b.1
def zaR:List En->En->List En
 | [],e=> [e]
 | x::l,e=> if x.1 < e.1 then x::zaR l e else if x.1=e.1 then e::l else e::x::l
def zaJ:List En->Nat->List En
 | [],_=> []
 | x::l,k=> if x.1 < k then x::zaJ l k else if x.1=k then l else x::l
def zdi:List En->Nat->Option En
 | [],_=> none
 | x::l,k=> if x.1=k then some x else zdi l k
def zb2 (l:List En) (k:Nat):Option En:=(l.filter fun x=> decide (x.1<=k)).getLast?
theorem zac.left {a b:List En} (h:zac (a++b)):zac a:=(List.pairwise_append.1 h).1
theorem zac.right {a b:List En} (h:zac (a++b)):zac b:=(List.pairwise_append.1 h).2.1
theorem zac.cross {a b:List En} (h:zac (a++b)):∀x ∈ a,∀y ∈ b,x.1 < y.1:=(List.pairwise_append.1 h).2.2
theorem zdX {l:List En} {e x:En} (h:x ∈ zaR l e):x=e\/x ∈ l:=by
 induction l with
 | nil=> simp [zaR] at h;exact .inl h
 | cons y l ih=>
   unfold zaR at h
   split at h
   ·rcases List.mem_cons.1 h with h | h
    ·exact .inr (by simp [h])
    rcases ih h with h | h
    ·exact .inl h
    exact .inr (by simp [h])
   split at h
   ·rcases List.mem_cons.1 h with h | h
    ·exact .inl h
    exact .inr (by simp [h])
   rcases List.mem_cons.1 h with h | h
   ·exact .inl h
   exact .inr h
theorem zc8 {l:List En} {e:En} (h:zac l):zac (zaR l e):=by
 induction l with
 | nil=> simp [zaR,zac]
 | cons y l ih=>
   unfold zaR;unfold zac at h ih ⊢;rw [List.pairwise_cons] at h
   split
   ·rename_i h1
    rw [List.pairwise_cons];refine ⟨fun x hx=> ?_,ih h.2⟩;rcases zdX hx with rfl | hx
    ·exact h1
    exact h.1 x hx
   split
   ·rename_i h1 h2
    rw [List.pairwise_cons];exact ⟨fun x hx=> by have:=h.1 x hx;omega,h.2⟩
   rename_i h1 h2
   rw [List.pairwise_cons,List.pairwise_cons];refine ⟨fun x hx=> ?_,h⟩;rcases List.mem_cons.1 hx with rfl | hx
   ·omega
   have:=h.1 x hx;omega
theorem zop {a m b:List En} {e:En} (ha:∀x ∈ a,x.1 < e.1) (hb:∀y ∈ b,e.1 < y.1):zaR (a++m++b) e=a++zaR m e++b:=by
 induction a with
 | nil =>
   simp only [List.nil_append]
   induction m with
   | nil=>
     simp only [List.nil_append,zaR]
     cases b with
     | nil=> rfl
     | cons y b=>
       have:=hb y uh;unfold zaR;rw [if_neg ud,if_neg ud]
       rfl
   | cons x m ih=>
     simp only [List.cons_append];unfold zaR
     split
     ·rw [ih];rfl
     split <;> rfl
 | cons x a ih=>
   have:=ha x uh;simp only [List.cons_append];rw [zaR,if_pos this,ih (fun z hz=> ha z ubg)]
theorem znW {a m b:List En}  (ha:∀x ∈ a,x.1 < k) (hb:∀y ∈ b,k < y.1):zaJ (a++m++b) k=a++zaJ m k++b:=by
 induction a with
 | nil =>
   simp only [List.nil_append]
   induction m with
   | nil=>
     simp only [List.nil_append,zaJ]
     cases b with
     | nil=> rfl
     | cons y b=>
       have:=hb y uh;unfold zaJ;rw [if_neg ud,if_neg ud]
   | cons x m ih=>
     simp only [List.cons_append];unfold zaJ
     split
     ·rw [ih];rfl
     split <;> rfl
 | cons x a ih=>
   have:=ha x uh;simp only [List.cons_append];rw [zaJ,if_pos this,ih (fun z hz=> ha z ubg)]
theorem zgM (l:List En) (k:Nat):(zaJ l k).Sublist l:=by
 induction l with
 | nil=> exact List.Sublist.refl _
 | cons x l ih=>
   unfold zaJ
   split
   ·exact List.Sublist.cons_cons x ih
   split
   ·exact List.sublist_cons_self x l
   exact List.Sublist.refl _
theorem zhH {l:List En}  (h:zac l):zac (zaJ l k):=h.sublist (zgM l k)
theorem zgL {l:List En}  (h:zac l):(zaJ l k).length+(if (zdi l k).isSome then 1 else 0)=l.length:=by
 induction l with
 | nil=> simp [zaJ,zdi]
 | cons x l ih=>
   unfold zac at h;rw [List.pairwise_cons] at h;unfold zaJ zdi
   by_cases h1:x.1=k
   ·rw [if_neg ud,if_pos h1,if_pos h1];simp
   rw [if_neg h1,if_neg h1]
   by_cases h2:x.1 < k
   ·rw [if_pos h2];have:=ih h.2;simp only [List.length_cons]
    omega
   rw [if_neg h2];have:zdi l k=none:=by
    have Bq:∀y ∈ l,y.1≠k:=fun y hy=> by have:=h.1 y hy;omega
    clear ih h
    induction l with
    | nil=> rfl
    | cons y l ih=>
      unfold zdi;rw [if_neg (Bq y uh),ih (fun z hz=> Bq z ubg)]
   rw [this];simp
theorem zeZ (l:List En) (e:En) (h:zac l):(zaR l e).length=l.length+(if (zdi l e.1).isSome then 0 else 1):=by
 induction l with
 | nil=> simp [zaR,zdi]
 | cons x l ih=>
   unfold zac at h;rw [List.pairwise_cons] at h;unfold zaR zdi
   by_cases h1:x.1=e.1
   ·rw [if_neg ud,if_pos h1,if_pos h1];simp
   rw [if_neg h1,if_neg h1]
   by_cases h2:x.1 < e.1
   ·rw [if_pos h2];have:=ih h.2;simp only [List.length_cons]
    omega
   rw [if_neg h2];have:zdi l e.1=none:=by
    have Bq:∀y ∈ l,y.1≠e.1:=fun y hy=> by have:=h.1 y hy;omega
    clear ih h
    induction l with
    | nil=> rfl
    | cons y l ih=>
      unfold zdi;rw [if_neg (Bq y uh),ih (fun z hz=> Bq z ubg)]
   rw [this];simp
theorem zjW {a m b:List En}  (ha:∀x ∈ a,x.1 < k) (hb:∀y ∈ b,k < y.1):zdi (a++m++b) k=zdi m k:=by
 induction a with
 | nil =>
   simp only [List.nil_append]
   induction m with
   | nil=>
     simp only [List.nil_append]
     induction b with
     | nil=> rfl
     | cons y b ih=>
       have:=hb y uh;unfold zdi;rw [if_neg ud,ih (fun z hz=> hb z ubg)]
       rfl
   | cons x m ih=>
     simp only [List.cons_append];unfold zdi;rw [ih]
 | cons x a ih=>
   have:=ha x uh;simp only [List.cons_append];rw [zdi,if_neg ud,ih (fun z hz=> ha z ubg)]
def Tr:Nat->Type
 | 0=> List En
 | d+1=> List (Tr d)
def zS (t:Tr 0):List En:=t
def zx (t:Tr (d+1)):List (Tr d):=t
def mkT (ks:List (Tr d)):Tr (d+1):=ks
def zbM (es:List En):Tr 0:=es
@[simp] theorem zpk {d:Nat} (ks:List (Tr d)):zx (mkT ks)=ks:=rfl
@[simp] theorem row_leaf (es:List En):zS (zbM es)=es:=rfl
def flatT:{d:Nat}->Tr d->List En
 | 0,t=> zS t
 | _+1,t=> (zx t).flatMap flatT
def zad:{d:Nat}->Tr d->Nat
 | 0,t=> ((zS t).head?.map (·.1)).getD 0
 | _+1,t=> ((zx t).head?.map zad).getD 0
def zC:{d:Nat}->Tr d->List Nat
 | 0,t=> (zS t).map (·.1)
 | _+1,t=> (zx t).map zad
def zH:{d:Nat}->Tr d->Nat
 | 0,t=> (zS t).length
 | _+1,t=> (zx t).length
def zax:{d:Nat}->Tr d->Prop
 | 0,_=> True
 | _+1,t=> ∀k ∈ zx t,3<=zH k/\zH k<=6/\zax k
structure zag {d:Nat} (t:Tr d):Prop where
 lo:3<=zH t
 hi:zH t<=6
 kids:zax t
theorem zag.kid {t:Tr (d+1)} (h:zax t) {k:Tr d} (hk:k ∈ zx t):zag k:=by
 obtain ⟨h1,h2,h3⟩:=h k hk;exact ⟨h1,h2,h3⟩
theorem zgY:{d:Nat}->(t:Tr d)->(zC t).length=zH t
 | 0,t=> by simp [zC,zH]
 | _+1,t=> by simp [zC,zH]
theorem zhQ:∀{d:Nat} {t:Tr d},0 < zH t->zax t->∃x l,flatT t=x::l/\zad t=x.1
 | 0,t,h,_=> by
   have h:0 < (zS t).length:=h;unfold flatT zad
   cases hk:zS t with
   | nil=> rw [hk] at h;simp at h
   | cons x l=> exact ⟨x,l,rfl,rfl⟩
 | d +1,t,h,hK=> by
   have h:0 < (zx t).length:=h;unfold flatT zad
   cases hk:zx t with
   | nil=> rw [hk] at h;simp at h
   | cons k ks=>
     obtain ⟨h1,-,h3⟩:=hK k (by rw [hk];simp)
     obtain ⟨x,l,e1,e2⟩:=zhQ ud h3;exact ⟨x,l++ks.flatMap flatT,by rw [List.flatMap_cons,e1];rfl,e2⟩
theorem zag.first {t:Tr d} (h:zag t):∃x l,flatT t=x::l/\zad t=x.1:=zhQ (by have:=h.lo;omega) h.kids
def zP (ks:List Nat) (k:Nat):Nat:=(ks.filter fun x=> decide (x<=k)).length - 1
theorem zn6 (h:ks≠ []):zP ks k < ks.length:=by
 unfold zP;have h1:=List.length_filter_le (fun x=> decide (x<=k)) ks;have:0 < ks.length:=List.length_pos_iff.2 h
 omega
def zit (l:List Nat):Prop:=l.Pairwise (· < ·)
theorem zfj {l:List Nat} (h:zit l) (k:Nat):l.filter (fun x=> decide (x<=k))=l.take (l.filter fun x=> decide (x<=k)).length:=by
 induction l with
 | nil=> rfl
 | cons x l ih=>
   unfold zit at h ih;rw [List.pairwise_cons] at h
   by_cases hx:x<=k
   ·rw [List.filter_cons_of_pos ubc];rw [List.length_cons,List.take_succ_cons];rw [<- ih h.2]
   have:l.filter (fun x=> decide (x<=k))= []:=by
       rw [List.filter_eq_nil_iff];intro y hy;have:=h.1 y hy;simp;omega
   rw [List.filter_cons_of_neg ubc,this]
   rfl
theorem zhX (h:zit ks) (k j:Nat) (hj:zP ks k < j) (x:Nat) (hx:ks[j]? =some x):k < x:=by
 by_cases Il:x<=k
 ·exfalso;have hm:x ∈ ks.filter (fun x=> decide (x<=k)):=List.mem_filter.2 ⟨List.mem_of_getElem? hx,by simpa using Il⟩
  rw [zfj h k] at hm;obtain ⟨i,hi⟩:=List.getElem?_of_mem hm;have FS:i < (ks.filter fun x=> decide (x<=k)).length:=by
   have:=(List.getElem?_eq_some_iff.1 hi).1;rw [List.length_take] at this
   omega
  rw [List.getElem?_take_of_lt FS] at hi;unfold zP at hj;have Fr:i < j:=ud;have hp:=List.pairwise_iff_getElem.1 h i j (List.getElem?_eq_some_iff.1 hi).1 (List.getElem?_eq_some_iff.1 hx).1 Fr;obtain ⟨_,e1⟩:=List.getElem?_eq_some_iff.1 hi;obtain ⟨_,e2⟩:=List.getElem?_eq_some_iff.1 hx;rw [e1,e2] at hp
  omega
 omega
theorem zmI (h:zit ks) (k:Nat) (x:Nat) (hx:ks[zP ks k]? =some x) (h0:0 < zP ks k\/∃y ∈ ks,y<=k):x<=k:=by
 have BP:0 < (ks.filter fun x=> decide (x<=k)).length:=by
  rcases h0 with h0 | ⟨y,hy,bv⟩
  ·unfold zP at h0;omega
  exact List.length_pos_of_mem (List.mem_filter.2 ⟨hy,by simpa using bv⟩)
 have hlt:zP ks k < (ks.filter fun x=> decide (x<=k)).length:=by unfold zP;omega
 have e:(ks.filter fun x=> decide (x<=k))[zP ks k]? =some x:=by
  rw [zfj h k,List.getElem?_take_of_lt hlt];exact hx
 have:=(List.mem_filter.1 (List.mem_of_getElem? e)).2
 simpa using this
def zbv {α β:Type} (f:List α->β) (l:List α):List β:=
 if l.length=0 then [] else if l.length<=6 then [f l] else [f (l.take (l.length / 2)),f (l.drop (l.length / 2))]
def zho:{d:Nat}->Tr d->En->List (Tr d)
 | 0,t,e=> zbv zbM (zaR (zS t) e)
 | _+1,t,e=> zbv mkT ((zx t).take (zP (zC t) e.1)++((zx t)[zP (zC t) e.1]?.map fun c=> zho c e).getD []++(zx t).drop (zP (zC t) e.1+1))
def zeb:{d:Nat}->Tr d->Tr d->List (Tr d)
 | 0,a,b=> zbv zbM (zS a++zS b)
 | _+1,a,b=> zbv mkT (zx a++zx b)
def zaA (ks:List (Tr d)) (i:Nat):List (Tr d):=
 match ks[i]?,ks[i - 1]?,ks[i - 1+1]? with
 | some c,some a,some b=> if 3<=zH c\/ks.length < 2 then ks else ks.take (i - 1)++zeb a b++ks.drop (i - 1+2)
 | _,_,_=> ks
def zir:{d:Nat}->Tr d->Nat->List (Tr d)
 | 0,t,k=> zbv zbM (zaJ (zS t) k)
 | _+1,t,k=> zbv mkT (zaA ((zx t).take (zP (zC t) k)++((zx t)[zP (zC t) k]?.map fun c=> zir c k).getD []++(zx t).drop (zP (zC t) k+1)) (zP (zC t) k))
def zdK:{d:Nat}->Tr d->Nat->Option En
 | 0,t,k=> zb2 (zS t) k
 | _+1,t,k=> ((zx t)[zP (zC t) k]?.map fun c=> zdK c k).getD none
theorem zpa (ks:List (Tr d)):flatT (mkT ks)=ks.flatMap flatT:=rfl
theorem zgm {α β:Type} (f:List α->β) (g:β->List En) (h:List α->List En) (hf:∀l,g (f l)=h l) (XG:∀a b,h (a++b)=h a++h b) (h0:h []= []) (l:List α):(zbv f l).flatMap g=h l:=by
 unfold zbv
 split
 ·rename_i e
  rw [List.eq_nil_of_length_eq_zero e,h0];rfl
 split
 ·simp [hf]
 simp only [List.flatMap_cons,List.flatMap_nil,List.append_nil,hf];rw [<- XG,List.take_append_drop]
theorem zgn (l:List En):(zbv zbM l).flatMap flatT=l:=zgm zbM flatT id (fun _=> rfl) (fun _ _=> rfl) rfl l
theorem zj9 (l:List (Tr d)):(zbv mkT l).flatMap flatT=l.flatMap flatT:=zgm mkT flatT (fun l=> l.flatMap flatT) (fun _=> rfl) (fun _ _=> List.flatMap_append) rfl l
theorem zdP:{d:Nat}->{t:Tr d}->zax t->zac (flatT t)->zit (zC t)
 | 0,t,_,h=> by
   unfold zit zC;rw [List.pairwise_map];exact h
 | d+1,t,hK,h=> by
   unfold zit zC;rw [List.pairwise_map];have h':zac ((zx t).flatMap flatT):=h;unfold zac at h';rw [List.pairwise_flatMap] at h';refine h'.2.imp_of_mem ?_;intro a b ha hb Dh;obtain ⟨x,l,e1,e2⟩:=(zag.kid hK ha).first
   obtain ⟨y,m,e3,e4⟩:=(zag.kid hK hb).first
   rw [e2,e4];exact Dh x (by rw [e1];simp) y (by rw [e3];simp)
theorem zn1:{d:Nat}->{t:Tr d}->zag t->zac (flatT t)->∀x ∈ flatT t,zad t<=x.1:=by
 intro d t h hr x hx;obtain ⟨y,l,e1,e2⟩:=h.first
 rw [e1] at hx hr;unfold zac at hr;rw [List.pairwise_cons] at hr;rw [e2];rcases List.mem_cons.1 hx with rfl | hx
 ·exact Nat.le_refl _
 exact Nat.le_of_lt (hr.1 x hx)
theorem zbK (ks:List (Tr d)) (i:Nat) (c:Tr d) (hc:ks[i]? =some c):ks.flatMap flatT=(ks.take i).flatMap flatT++flatT c++(ks.drop (i+1)).flatMap flatT:=by
 have h1:ks=ks.take i++c::ks.drop (i+1):=by
  obtain ⟨hi,e⟩:=List.getElem?_eq_some_iff.1 hc;rw [<- e,<- List.drop_eq_getElem_cons hi,List.take_append_drop]
 conv=> lhs;rw [h1]
 rw [List.flatMap_append,List.flatMap_cons,List.append_assoc]
theorem zfr {t:Tr (d+1)} (hK:zax t) (hr:zac (flatT t)) (k:Nat) {c:Tr d} (hc:(zx t)[zP (zC t) k]? =some c):
 (∀x ∈ ((zx t).take (zP (zC t) k)).flatMap flatT,x.1 < k)/\(∀y ∈ ((zx t).drop (zP (zC t) k+1)).flatMap flatT,k < y.1)/\(zP (zC t) k≠0->zad c<=k):=by
 have Eu:=zdP hK hr;have Cl:∀(j:Nat) (c':Tr d),(zx t)[j]? =some c'->(zC t)[j]? =some (zad c'):=fun j c' h=> by
  show ((zx t).map zad)[j]? =_
  rw [List.getElem?_map,h];rfl
 have Af:zP (zC t) k≠0->zad c<=k:=fun h0=> zmI Eu k _ (Cl _ _ hc) (.inl ud);have Ha:zac ((zx t).flatMap flatT):=hr;have Gg:=zbK (zx t) _ c hc;refine ⟨fun x hx=> ?_,fun y hy=> ?_,Af⟩
 ·have h0:zP (zC t) k≠0:=by
   intro e;rw [e] at hx;simp at hx
  have Ce:c ∈ zx t:=List.mem_of_getElem? hc;obtain ⟨y,l,e1,e2⟩:=(zag.kid hK Ce).first
  rw [Gg,List.append_assoc] at Ha;have:=Ha.cross x hx y (by rw [e1];simp)
  have:=Af h0
  omega
 obtain ⟨c',Jc,bu⟩:=List.mem_flatMap.1 hy;obtain ⟨j,hj⟩:=List.getElem?_of_mem Jc;rw [List.getElem?_drop] at hj;have hb:=zhX Eu k (zP (zC t) k+1+j) ud _ (Cl _ _ hj);have B7:zac (flatT c'):=by
  unfold zac at Ha;rw [List.pairwise_flatMap] at Ha;exact Ha.1 c' (List.mem_of_getElem? hj)
 have:=zn1 (zag.kid hK (List.mem_of_getElem? hj)) B7 y bu
 omega
theorem zcA {t:Tr (d+1)} (h:0 < zH t) (k:Nat):∃c,(zx t)[zP (zC t) k]? =some c:=by
 have hl:=zgY t;have:zP (zC t) k < (zx t).length:=by
  have h2:zC t≠ []:=fun e=> by rw [e] at hl;simp at hl;omega
  have:=zn6 (k:=k) h2;rw [hl] at this;exact this
 exact ⟨_,List.getElem?_eq_getElem this⟩
theorem zbu {t:Tr (d+1)} (hr:zac (flatT t)) {c:Tr d} (hc:c ∈ zx t):zac (flatT c):=by
 have Ha:zac ((zx t).flatMap flatT):=hr;unfold zac at Ha;rw [List.pairwise_flatMap] at Ha;exact Ha.1 c hc
theorem zkg:{d:Nat}->{t:Tr d}->0 < zH t->zax t->zac (flatT t)->(e:En)->(zho t e).flatMap flatT=zaR (flatT t) e
 | 0,t,_,_,_,e=> by
   unfold zho;rw [zgn];rfl
 | d+1,t,h0,hK,hr,e=> by
   obtain ⟨c,hc⟩:=zcA h0 e.1;obtain ⟨h1,h2,-⟩:=zfr hK hr e.1 hc;have Ce:=List.mem_of_getElem? hc;have hF:=zag.kid hK Ce;have ih:=zkg uaa hF.kids (zbu hr Ce) e;unfold zho;rw [zj9,hc];simp only [Option.map_some,Option.getD_some];rw [List.flatMap_append,List.flatMap_append,ih]
   show _=zaR ((zx t).flatMap flatT) e
   rw [zbK _ _ c hc,zop h1 h2]
theorem zgg:{d:Nat}->{t:Tr d}->0 < zH t->zax t->zac (flatT t)->(k:Nat)->zdK t k=zb2 (flatT t) k
 | 0,t,_,_,_,k=> rfl
 | d + 1,t,h0,hK,hr,k=> by
   obtain ⟨c,hc⟩:=zcA h0 k;obtain ⟨h1,h2,h3⟩:=zfr hK hr k hc;have Ce:=List.mem_of_getElem? hc;have hF:=zag.kid hK Ce;have ih:=zgg uaa hF.kids (zbu hr Ce) k;unfold zdK;rw [hc];simp only [Option.map_some,Option.getD_some];rw [ih]
   show _=zb2 ((zx t).flatMap flatT) k
   rw [zbK _ _ c hc];unfold zb2;have hb:(((zx t).drop (zP (zC t) k+1)).flatMap flatT).filter (fun x=> decide (x.1<=k))= []:=by
     rw [List.filter_eq_nil_iff];intro y hy;have:=h2 y hy;simp;omega
   rw [List.filter_append,List.filter_append,hb,List.append_nil,List.getLast?_append]
   by_cases hi:zP (zC t) k=0
   ·rw [hi];simp
   obtain ⟨x,l,e1,e2⟩:=hF.first
   have hx:x ∈ (flatT c).filter (fun x=> decide (x.1<=k)):=by
      rw [List.mem_filter];exact ⟨by rw [e1];simp,by have:=h3 hi;simp;omega⟩
   have Aj:(flatT c).filter (fun x=> decide (x.1<=k))≠ []:=List.ne_nil_of_mem hx;rw [List.getLast?_eq_some_getLast Aj]
   rfl
def zcT (lo:Nat) (l:List (Tr d)):Prop:=(∃a,l= [a]/\lo<=zH a/\zH a<=6/\zax a)\/∃a b,l= [a,b]/\zag a/\zag b
theorem zbO {α β:Type} (f:List α->β) {l:List α} (h0:0 < l.length) (h6:l.length<=6):zbv f l= [f l]:=by
 unfold zbv;rw [if_neg ud,if_pos h6]
theorem zdT {α β:Type} (f:List α->β) {l:List α} (h6:6 < l.length):zbv f l= [f (l.take (l.length / 2)),f (l.drop (l.length / 2))]:=by
 unfold zbv;rw [if_neg ud,if_neg ud]
theorem zc1 (l:List En) (lo:Nat) (h0:0 < l.length) (h1:lo<=l.length) (h2:l.length<=12):zcT lo (zbv zbM l):=by
 by_cases h6:l.length<=6
 ·rw [zbO zbM h0 h6];exact .inl ⟨_,rfl,h1,h6,trivial⟩
 rw [zdT zbM ud];refine .inr ⟨_,_,rfl,⟨?_, ?_,trivial⟩,⟨?_, ?_,trivial⟩⟩
 ·show 3<=(l.take (l.length / 2)).length
  rw [List.length_take];omega
 ·show (l.take (l.length / 2)).length<=6
  rw [List.length_take];omega
 ·show 3<=(l.drop (l.length / 2)).length
  rw [List.length_drop];omega
 show (l.drop (l.length / 2)).length<=6
 rw [List.length_drop];omega
theorem zbL (l:List (Tr d)):zax (mkT l)↔∀k ∈ l,zag k:=by
 constructor
 ·intro h k hk;exact zag.kid (t:=mkT l) h hk
 intro h k hk;exact ⟨(h k hk).lo,(h k hk).hi,(h k hk).kids⟩
theorem zdS (l:List (Tr d)) (lo:Nat) (h0:0 < l.length) (h1:lo<=l.length) (h2:l.length<=12) (hF:∀k ∈ l,zag k):zcT lo (zbv mkT l):=by
 by_cases h6:l.length<=6
 ·rw [zbO mkT h0 h6];exact .inl ⟨_,rfl,h1,h6,(zbL l).2 hF⟩
 rw [zdT mkT ud];refine .inr ⟨_,_,rfl,⟨?_, ?_,(zbL _).2 fun k hk=> hF k (List.mem_of_mem_take hk)⟩,⟨?_, ?_,(zbL _).2 fun k hk=> hF k (List.mem_of_mem_drop hk)⟩⟩
 ·show 3<=(l.take (l.length / 2)).length
  rw [List.length_take];omega
 ·show (l.take (l.length / 2)).length<=6
  rw [List.length_take];omega
 ·show 3<=(l.drop (l.length / 2)).length
  rw [List.length_drop];omega
 show (l.drop (l.length / 2)).length<=6
 rw [List.length_drop];omega
theorem zcT.full {l:List (Tr d)} (h:zcT 3 l):∀k ∈ l,zag k:=by
 rcases h with ⟨a,rfl,h1,h2,h3⟩ | ⟨a,b,rfl,h1,h2⟩
 ·intro k hk;simp at hk;subst hk;exact ⟨h1,h2,h3⟩
 intro k hk;simp at hk;rcases hk with rfl | rfl
 ·exact h1
 exact h2
theorem zcT.len {l:List (Tr d)} (h:zcT lo l):1<=l.length/\l.length<=2:=by
 rcases h with ⟨a,rfl,-⟩ | ⟨a,b,rfl,-⟩ <;> simp
theorem zcT.mono {lo':Nat} {l:List (Tr d)} (h:zcT lo l) (hl:lo'<=lo):zcT lo' l:=by
 rcases h with ⟨a,e,h1,h2⟩ | h
 ·exact .inl ⟨a,e,ud,h2⟩
 exact .inr h
theorem zhd:{d:Nat}->{t:Tr d}->0 < zH t->zH t<=6->zax t->zac (flatT t)->(e:En)->zcT (zH t) (zho t e)
 | 0,t,h0,h6,_,hr,e=> by
   have hl:=zeZ (zS t) e hr;have OF:0 < (zS t).length:=h0;have WV:(zS t).length<=6:=h6;unfold zho;exact zc1 _ _ (by split at hl <;> omega) (by show (zS t).length<=_;split at hl <;> omega) (by split at hl <;> omega)
 | d +1,t,h0,h6,hK,hr,e=> by
   obtain ⟨c,hc⟩:=zcA h0 e.1;have Ce:=List.mem_of_getElem? hc;have hF:=zag.kid hK Ce;have ih:=(zhd uaa hF.hi hF.kids (zbu hr Ce) e).mono hF.lo;have hlt:=(List.getElem?_eq_some_iff.1 hc).1;have WV:(zx t).length<=6:=h6;have E9:=ih.len;unfold zho;rw [hc];simp only [Option.map_some,Option.getD_some];refine zdS _ _ ?_ ?_ ?_ ?_
   ·simp only [List.length_append,List.length_take,List.length_drop];omega
   ·show (zx t).length<=_
    simp only [List.length_append,List.length_take,List.length_drop];omega
   ·simp only [List.length_append,List.length_take,List.length_drop];omega
   intro k hk;rcases List.mem_append.1 hk with hk | hk
   ·rcases List.mem_append.1 hk with hk | hk
    ·exact zag.kid hK (List.mem_of_mem_take hk)
    exact ih.full k hk
   exact zag.kid hK (List.mem_of_mem_drop hk)
theorem zhW:{d:Nat}->{a b:Tr d}->zax a->zax b->2<=zH a->3<=zH a+zH b->zH a<=6->zH b<=6->zcT 3 (zeb a b)
 | 0,a,b,_,_,h1,h2,h3,h4=> by
   have e1:zH a=(zS a).length:=rfl;have e2:zH b=(zS b).length:=rfl;unfold zeb;exact zc1 _ _ uo uo uo
 | d+1,a,b,ha,hb,h1,h2,h3,h4=> by
   have e1:zH a=(zx a).length:=rfl;have e2:zH b=(zx b).length:=rfl;unfold zeb;refine zdS _ _ uo uo uo fun k hk=> ?_;rcases List.mem_append.1 hk with hk | hk
   ·exact zag.kid ha hk
   exact zag.kid hb hk
theorem zmE:{d:Nat}->(a b:Tr d)->(zeb a b).flatMap flatT=flatT a++flatT b
 | 0,a,b=> by unfold zeb;rw [zgn];rfl
 | d+1,a,b=> by unfold zeb;rw [zj9,List.flatMap_append];rfl
theorem zfp (ks:List (Tr d)) (i:Nat) (c:Tr d) (hc:ks[i]? =some c) (h2:2<=ks.length) (AN:2<=zH c) (XZ:zH c<=6) (GB:zax c) (hF:∀j k,j≠i->ks[j]? =some k->zag k):
 (∀k ∈ zaA ks i,zag k)/\(zaA ks i).flatMap flatT=ks.flatMap flatT/\ks.length - 1<=(zaA ks i).length/\(zaA ks i).length<=ks.length:=by
 have hi:=(List.getElem?_eq_some_iff.1 hc).1;obtain ⟨a,ha⟩:∃a,ks[i - 1]? =some a:=⟨_,List.getElem?_eq_getElem ud⟩;obtain ⟨b,hb⟩:∃b,ks[i - 1+1]? =some b:=⟨_,List.getElem?_eq_getElem ud⟩;unfold zaA;rw [hc,ha,hb];simp only
 by_cases h3:3<=zH c
 ·rw [if_pos (.inl h3)];refine ⟨fun k hk=> ?_,rfl,ud,Nat.le_refl _⟩;obtain ⟨j,hj⟩:=List.getElem?_of_mem hk
  by_cases e:j=i
  ·subst e;rw [hc] at hj
   cases hj
   exact ⟨h3,XZ,GB⟩
  exact hF j k e hj
 rw [if_neg ud];have Dh:zax a/\zax b/\2<=zH a/\3<=zH a+zH b/\zH a<=6/\zH b<=6:=by
  by_cases e0:i=0
  ·subst e0;have:a=c:=by rw [hc] at ha;exact (Option.some.inj ha).symm
   subst this;have Gz:=hF 1 b ud hb;exact ⟨GB,Gz.kids,AN,by have:=Gz.lo;omega,XZ,Gz.hi⟩
  have:b=c:=by
   rw [show i - 1+1=i by omega,hc] at hb
   exact (Option.some.inj hb).symm
  subst this;have Ns:=hF (i - 1) a ud ha;exact ⟨Ns.kids,GB,by have:=Ns.lo;omega,by have:=Ns.lo;omega,Ns.hi,XZ⟩
 have hJ:=zhW Dh.1 Dh.2.1 Dh.2.2.1 Dh.2.2.2.1 Dh.2.2.2.2.1 Dh.2.2.2.2.2;have E9:=hJ.len;have Aa:=(List.getElem?_eq_some_iff.1 hb).1;have Cv:∀j k,(j < i - 1\/i - 1+2<=j)->ks[j]? =some k->zag k:=fun j k hj hk=> hF j k ud hk;refine ⟨fun k hk=> ?_, ?_, ?_, ?_⟩
 ·rcases List.mem_append.1 hk with hk | hk
  ·rcases List.mem_append.1 hk with hk | hk
   ·obtain ⟨j,hj⟩:=List.getElem?_of_mem hk;have FT:=(List.getElem?_eq_some_iff.1 hj).1;rw [List.length_take] at FT;rw [List.getElem?_take_of_lt ud] at hj;exact Cv j k ud hj
   exact hJ.full k hk
  obtain ⟨j,hj⟩:=List.getElem?_of_mem hk;rw [List.getElem?_drop] at hj;exact Cv _ k ud hj
 ·have e1:ks=ks.take (i - 1)++a::b::ks.drop (i - 1+2):=by
       obtain ⟨G2,e⟩:=List.getElem?_eq_some_iff.1 ha;obtain ⟨Lp,e'⟩:=List.getElem?_eq_some_iff.1 hb;rw [<- e',show ks.drop (i - 1+2)=ks.drop (i - 1+1+1) from rfl,<- List.drop_eq_getElem_cons Lp,<- e,<- List.drop_eq_getElem_cons G2,List.take_append_drop]
  rw [List.flatMap_append,List.flatMap_append,zmE]
  conv=> rhs;rw [e1]
  simp [List.flatMap_append,List.flatMap_cons]
 ·simp only [List.length_append,List.length_take,List.length_drop];omega
 simp only [List.length_append,List.length_take,List.length_drop];omega
theorem zgN:{d:Nat}->{t:Tr d}->2<=zH t->zH t<=6->zax t->zac (flatT t)->(k:Nat)->(zdi (flatT t) k).isSome=true->
 ∃a,zir t k= [a]/\zH t - 1<=zH a/\zH a<=zH t/\zax a/\flatT a=zaJ (flatT t) k
 | 0,t,h0,h6,_,hr,k,hg=> by
   have hl:=zgL (k:=k) hr;have e0:flatT t=zS t:=rfl;rw [e0] at hl hg;rw [if_pos hg] at hl;have OF:2<=(zS t).length:=h0;have WV:(zS t).length<=6:=h6;unfold zir;rw [zbO zbM ud ud];exact ⟨_,rfl,by show (zS t).length - 1<=(zaJ (zS t) k).length;omega,by show (zaJ (zS t) k).length<=(zS t).length;omega,trivial,rfl⟩
 | d +1,t,h0,h6,hK,hr,k,hg=> by
   obtain ⟨c,hc⟩:=zcA (t:=t) ud k;obtain ⟨h1,h2,-⟩:=zfr hK hr k hc;have Ce:=List.mem_of_getElem? hc;have hF:=zag.kid hK Ce;have Gg:flatT t=_:=zbK (zx t) _ c hc;rw [Gg,zjW h1 h2] at hg;obtain ⟨a,ea,l1,l2,l3,l4⟩:=zgN uaa hF.hi hF.kids (zbu hr Ce) k hg;have hlt:=(List.getElem?_eq_some_iff.1 hc).1;have OF:2<=(zx t).length:=h0;have WV:(zx t).length<=6:=h6;have Gd:=hF.lo;have JI:=hF.hi;generalize hi:zP (zC t) k=i at *;unfold zir;rw [hi,hc];simp only [Option.map_some,Option.getD_some,ea];have Ad:(zx t).take i++ [a]++(zx t).drop (i+1)=(zx t).set i a:=by
     rw [List.set_eq_take_append_cons_drop,if_pos hlt];simp
   rw [Ad];have G7:((zx t).set i a)[i]? =some a:=by rw [List.getElem?_set_self hlt]
   obtain ⟨j1,j2,j3,j4⟩:=zfp ((zx t).set i a) i a G7 (by rw [List.length_set];omega) ud ud l3 (fun j k' hj hk=> by
     rw [List.getElem?_set_ne (fun e=> hj e.symm)] at hk;exact zag.kid hK (List.mem_of_getElem? hk))
   rw [List.length_set] at j3 j4;rw [zbO mkT ud ud];refine ⟨_,rfl,by show (zx t).length - 1<=(zaA _ i).length;exact j3,by show (zaA _ i).length<=(zx t).length;exact j4,(zbL _).2 j1, ?_⟩
   rw [zpa,j2,Gg,znW h1 h2,<- l4,<- Ad];simp [List.flatMap_append]
end
section
open Go.RowKit
def Sl (w:World) (a:Option Addr) (n:Nat) (xs:List Value):Prop:=
 xs.length=n/\∀i x,xs[i]? =some x->∃b o,a=some ⟨b,o,()⟩/\w ⟨b,o+i,()⟩=some x
theorem Sl.below {xs:List Value} (h:Sl w a n xs) (hb:θ B w w') (hB:↑w<=B):Sl w' a n xs:=by
 refine ⟨h.1,fun i x hx=> ?_⟩;obtain ⟨b,o,ha,hc⟩:=h.2 i x hx;refine ⟨b,o,ha, ?_⟩;have hlt:=World.block_lt_of_cell? w _ hc;rw [hb.cell (p:=(b (o+i) ())) (by simp at hlt ⊢;omega)]
 exact hc
def Is (k:IntKind) (w:World) (a:Option Addr) (n:Nat) (zs:List Int):Prop:=Sl w a n (zs.map (.int k))
theorem Is.below {k:IntKind}    {zs:List Int} (h:Is k w a n zs) (hb:θ B w w') (hB:↑w<=B):Is k w' a n zs:=
 Sl.below h hb hB
theorem Is.len {k:IntKind}    {zs:List Int} (h:Is k w a n zs):zs.length=n:=by
 have:=h.1;simpa using this
theorem Is.at {k:IntKind}    {zs:List Int} (h:Is k w a n zs) (hn:0 < n):
 ∃b o,a=some ⟨b,o,()⟩/\∀i,i < n->w ⟨b,o+i,()⟩=some (.int k (zs.getD i 0)):=by
 have hl:=h.len;obtain ⟨b,o,ha,_⟩:=h.2 0 _ uY;refine ⟨b,o,ha,fun i hi=> ?_⟩;obtain ⟨b',o',Ns,hc⟩:=h.2 i _ uY;rw [ha] at Ns;simp only [Option.some.injEq,Addr.mk.injEq,and_true] at Ns;obtain ⟨rfl,rfl⟩:=Ns;rw [hc,List.getD_eq_getElem?_getD,List.getElem?_eq_getElem ud]
 rfl
theorem Is.mk' {k:IntKind}  {o:Nat} {zs:List Int} (hl:zs.length=n) (h:∀i,i < n->w (b (o+i) ())=some (.int k (zs.getD i 0))):
 Is k w (some (b o ())) n zs:=by
 refine ⟨by simpa using hl,fun i x hx=> ⟨b,o,rfl, ?_⟩⟩
 rw [List.getElem?_map] at hx;have hi:i < zs.length:=by
  rcases Nat.lt_or_ge i zs.length with hi | hi
  ·exact hi
  rw [List.getElem?_eq_none hi] at hx;cases hx
 rw [h i ud,List.getD_eq_getElem?_getD];rw [List.getElem?_eq_getElem hi] at hx ⊢
 simpa using hx
theorem zhB (w:World) (news:List Value) (e:TypeId):∀j u,news[j]? =some u->(w.alloc (.cells news.toArray e)) ((↑w:Addr).add j)=some u:=by
 intro j u hu;have Mg:(↑w:Addr).add j=⟨↑w,j,none⟩:=by unfold Addr.add;split <;> simp_all
 rw [Mg,World.cell?_alloc_mark]
 simpa using hu
theorem zca {o:Obj}  (h:(w.alloc o).grownBy w' row):w.grownBy w' row:=
 ⟨h.os,h.tape,h.output,Nat.le_trans uh h.size,fun k hk Aj=> (h.block k uo Aj).trans (Below.heap_alloc w o _ hk)⟩
theorem zlX {P:Program} {w:World} {base:Nat} {t e:TypeId} {i:TypeInfo} {z:Value} {size bytes:Nat} (ht:P.underlying t=some (.slice e)) (hi:P.info? e=some i) (hz:i.zero=some z)
 (T6:i.size=size) (FP:i.bytes=bytes) (bx:z.cells.size=size) (AR:0 < size) {v:Value} {n:Nat} {xs:List Value} (Af:w.ownsRow base e size v n xs)
 (m:Nat) (news:List Value) (hl:news.length=m * size) (h1:∀u ∈ news,u.oneCell'=true) (Z7:n+m<=maxLen) (hbytes:(n+m) * bytes<=140737488355328) (Cx:base<=w.heap.size):
 ∃v' w',(Builtin.append_ #[t,t] t #[v, .slice (some ⟨w.heap.size,0,none⟩) m m]).run P (w.alloc (.cells news.toArray e))= .ok v' w'/\w'.ownsRow base e size v' (n+m) (xs++news)/\w.grownBy w' v.ownBlock/\(0 < m->v'≠ .slice none 0 0):=by
 obtain ⟨v',w',hr,h2,h3,h4⟩:=run_append_own (P:=P) (w.alloc (.cells news.toArray e)) base t t e i z size bytes ht hi hz T6 FP bx AR v n xs (Af.alloc _) ⟨w.heap.size,0,none⟩ m m news hl (zhB w news e) h1 Z7 hbytes (by simp;omega)
 exact ⟨v',w',hr,h2,zca h3,fun hm hv=> by have:=(h4.1 hv).2;omega⟩
theorem Below.own {xs:List Value} (h:θ B w0 w) (Af:w.ownsRow base e size v n xs) (hg:w.grownBy w' v.ownBlock) (hB:B<=base) (hw:B<=↑w):θ B w0 w':=
 h.grown hg hw fun k hk=> by have:=(Af.lt k hk).1;omega
theorem zjs {k:IntKind} {a b:Int} (h:a=b):Ending.returned (.int k a)=ρ (.int k b):=ubm
theorem zkd {a b:Bool} (h:a=b):Ending.returned (.bool a)=ρ (.bool b):=ubm
def blF:Nat->Nat->Nat
 | 0,_=> 0
 | f+1,n=> if n=0 then 0 else blF f (n / 2)+1
def bl (n:Nat):Nat:=blF n n
theorem rd3 {r:List Value}  (h:w.heap[b]? =some (.cells ⟨v0::v1::v2::r⟩ t (0,0))):w b=some v0/\w (b 1 ())=some v1/\w (b 2 ())=some v2:=by
  refine ⟨?_, ?_, ?_⟩ <;> (rw [cell_of_row w b _ _ _ _ h];rfl)
theorem rd4 {r:List Value}  (h:w.heap[b]? =some (.cells ⟨v0::v1::v2::v3::r⟩ t (0,0))):w b=some v0/\w (b 1 ())=some v1/\w (b 2 ())=some v2/\w (b 3 ())=some v3:=by
  refine ⟨?_, ?_, ?_, ?_⟩ <;> (rw [cell_of_row w b _ _ _ _ h];rfl)
theorem rd5 {r:List Value}  (h:w.heap[b]? =some (.cells ⟨v0::v1::v2::v3::v4::r⟩ t (0,0))):w b=some v0/\w (b 1 ())=some v1/\w (b 2 ())=some v2/\w (b 3 ())=some v3/\w (b 4 ())=some v4:=by
  refine ⟨?_, ?_, ?_, ?_, ?_⟩ <;> (rw [cell_of_row w b _ _ _ _ h];rfl)
theorem rd6 {r:List Value}  (h:w.heap[b]? =some (.cells ⟨v0::v1::v2::v3::v4::v5::r⟩ t (0,0))):w b=some v0/\w (b 1 ())=some v1/\w (b 2 ())=some v2/\w (b 3 ())=some v3/\w (b 4 ())=some v4/\w (b 5 ())=some v5:=by
  refine ⟨?_, ?_, ?_, ?_, ?_, ?_⟩ <;> (rw [cell_of_row w b _ _ _ _ h];rfl)
theorem rd7 {r:List Value}  (h:w.heap[b]? =some (.cells ⟨v0::v1::v2::v3::v4::v5::v6::r⟩ t (0,0))):w b=some v0/\w (b 1 ())=some v1/\w (b 2 ())=some v2/\w (b 3 ())=some v3/\w (b 4 ())=some v4/\w (b 5 ())=some v5/\w (b 6 ())=some v6:=by
  refine ⟨?_, ?_, ?_, ?_, ?_, ?_, ?_⟩ <;> (rw [cell_of_row w b _ _ _ _ h];rfl)
theorem rd8 {r:List Value}  (h:w.heap[b]? =some (.cells ⟨v0::v1::v2::v3::v4::v5::v6::v7::r⟩ t (0,0))):w b=some v0/\w (b 1 ())=some v1/\w (b 2 ())=some v2/\w (b 3 ())=some v3/\w (b 4 ())=some v4/\w (b 5 ())=some v5/\w (b 6 ())=some v6/\w (b 7 ())=some v7:=by
  refine ⟨?_, ?_, ?_, ?_, ?_, ?_, ?_, ?_⟩ <;> (rw [cell_of_row w b _ _ _ _ h];rfl)
theorem rd9 {r:List Value}  (h:w.heap[b]? =some (.cells ⟨v0::v1::v2::v3::v4::v5::v6::v7::v8::r⟩ t (0,0))):w b=some v0/\w (b 1 ())=some v1/\w (b 2 ())=some v2/\w (b 3 ())=some v3/\w (b 4 ())=some v4/\w (b 5 ())=some v5/\w (b 6 ())=some v6/\w (b 7 ())=some v7/\w (b 8 ())=some v8:=by
  refine ⟨?_, ?_, ?_, ?_, ?_, ?_, ?_, ?_, ?_⟩ <;> (rw [cell_of_row w b _ _ _ _ h];rfl)
theorem rd10 {v9:Value} {r:List Value}  (h:w.heap[b]? =some (.cells ⟨v0::v1::v2::v3::v4::v5::v6::v7::v8::v9::r⟩ t (0,0))):w b=some v0/\w (b 1 ())=some v1/\w (b 2 ())=some v2/\w (b 3 ())=some v3/\w (b 4 ())=some v4/\w (b 5 ())=some v5/\w (b 6 ())=some v6/\w (b 7 ())=some v7/\w (b 8 ())=some v8/\w (b 9 ())=some v9:=by
  refine ⟨?_, ?_, ?_, ?_, ?_, ?_, ?_, ?_, ?_, ?_⟩ <;> (rw [cell_of_row w b _ _ _ _ h];rfl)
theorem zr:θ n w w:=Below.refl n w
theorem zl:n<=n:=Nat.le_refl n
theorem zh {p:Prop} (h:p):Go.RowKit.Hid p:=h
theorem zn {a b:Prop} (x:a) (y:b):a/\b:=⟨x,y⟩
theorem zg {α:Type _} {xs:Array α}  {b:α} (h:xs[i]? =some b):∃h:i < xs.size,xs[i]=b:=Array.getElem?_eq_some_iff.1 h
theorem zi {α:Type _} {xs:List α}  {b:α} (h:xs[i]? =some b):∃h:i < xs.length,xs[i]=b:=List.getElem?_eq_some_iff.1 h
theorem ze {α:Type _} {xs:List α}  (h:i < xs.length):xs[i]? =some xs[i]:=List.getElem?_eq_getElem h
theorem zm {α:Type _} {xs:List α}  {b:α} (h:xs[i]? =some b):b ∈ xs:=List.mem_of_getElem? h
theorem zt {a:Nat} (h:a < b) (k:b<=c):a < c:=Nat.lt_of_lt_of_le h k
theorem zs {a:Nat} (h:a<=b) (k:b<=c):a<=c:=Nat.le_trans h k
def zb:=@World.block_lt_of_cell?
def zk:=@List.take_of_length_le
def zw:=@IntWalk.i64_in
end
end Go.Proofs.YtaoceecfjlkmdaaGreat
