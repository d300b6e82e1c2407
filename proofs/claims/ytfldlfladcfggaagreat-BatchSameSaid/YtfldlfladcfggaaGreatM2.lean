/- Lemmas of the walks, merged and pressed by press.py. Conditions: those of each theorem. -/
import Derived.Test.YtfldlfladcfggaaGreatM1
import Derived.Lib.AppendZerosOnto
import Derived.Laws.CopyRow
set_option maxRecDepth 100000
set_option maxHeartbeats 64000000
set_option linter.all false
namespace Go.Proofs.YtfldlfladcfggaaGreat
section
abbrev En:=Nat × Nat
def zac (l:List En):Prop:=l.Pairwise fun a b=> a.1 < b.1
def zaR:List En→En→List En
 | [],e=> [e]
 | x::l,e=> if x.1 < e.1 then x::zaR l e else if x.1=e.1 then e::l else e::x::l
def zaJ:List En→Nat→List En
 | [],_=> []
 | x::l,k=> if x.1 < k then x::zaJ l k else if x.1=k then l else x::l
def zdi:List En→Nat→Option En
 | [],_=> none
 | x::l,k=> if x.1=k then some x else zdi l k
def zb2 (l:List En) (k:Nat):Option En:=(l.filter fun x=> decide (x.1≤k)).getLast?
theorem zac.left {a b:List En} (h:zac (a++b)):zac a:=(List.pairwise_append.1 h).1
theorem zac.cross {a b:List En} (h:zac (a++b)):∀x ∈ a,∀y ∈ b,x.1 < y.1:=(List.pairwise_append.1 h).2.2
theorem zdX {l:List En} {e x:En} (h:x ∈ zaR l e):x=e∨x ∈ l:=by
 induction l with
 | nil=> simp [zaR] at h;exact .inl h
 | cons y l ih=>
   unfold zaR at h
   split at h
   ·rcases List.mem_cons.1 h with h | h
    ·exact .inr (by simp [h])
    ·rcases ih h with h | h
     ·exact .inl h
     ·exact .inr (by simp [h])
   ·split at h
    ·rcases List.mem_cons.1 h with h | h
     ·exact .inl h
     ·exact .inr (by simp [h])
    ·rcases List.mem_cons.1 h with h | h
     ·exact .inl h
     ·exact .inr h
theorem zc8 {l:List En} {e:En} (h:zac l):zac (zaR l e):=by
 induction l with
 | nil=> simp [zaR,zac]
 | cons y l ih=>
   unfold zaR;unfold zac at h ih ⊢;rw [List.pairwise_cons] at h
   split
   ·rename_i h1
    rw [List.pairwise_cons];refine ⟨fun x hx=> ?_,ih h.2⟩;rcases zdX hx with rfl | hx
    ·exact h1
    ·exact h.1 x hx
   ·split
    ·rename_i h1 h2
     rw [List.pairwise_cons];exact ⟨fun x hx=> by have:=h.1 x hx;omega,h.2⟩
    ·rename_i h1 h2
     rw [List.pairwise_cons,List.pairwise_cons];refine ⟨fun x hx=> ?_,h⟩;rcases List.mem_cons.1 hx with rfl | hx
     ·omega
     ·have:=h.1 x hx;omega
theorem zop {a m b:List En} {e:En} (ha:∀x ∈ a,x.1 < e.1) (hb:∀y ∈ b,e.1 < y.1):zaR (a++m++b) e=a++zaR m e++b:=by
 induction a with
 | nil =>
   simp only [List.nil_append]
   induction m with
   | nil=>
     simp only [List.nil_append,zaR]
     cases b with
     | nil=> rfl
     | cons y b=>
       have:=hb y (by simp)
       unfold zaR;rw [if_neg (by omega),if_neg (by omega)]
       rfl
   | cons x m ih=>
     simp only [List.cons_append];unfold zaR
     split
     ·rw [ih];rfl
     ·split <;> rfl
 | cons x a ih=>
   have:=ha x (by simp)
   simp only [List.cons_append];rw [zaR,if_pos this,ih (fun z hz=> ha z (by simp [hz]))]
theorem zgM (l:List En) (k:Nat):(zaJ l k).Sublist l:=by
 induction l with
 | nil=> exact List.Sublist.refl _
 | cons x l ih=>
   unfold zaJ
   split
   ·exact List.Sublist.cons_cons x ih
   ·split
    ·exact List.sublist_cons_self x l
    ·exact List.Sublist.refl _
theorem zhH {l:List En} {k:Nat} (h:zac l):zac (zaJ l k):=h.sublist (zgM l k)
theorem zeZ (l:List En) (e:En) (h:zac l):(zaR l e).length=l.length+(if (zdi l e.1).isSome then 0 else 1):=by
 induction l with
 | nil=> simp [zaR,zdi]
 | cons x l ih=>
   unfold zac at h;rw [List.pairwise_cons] at h;unfold zaR zdi
   by_cases h1:x.1=e.1
   ·rw [if_neg (by omega),if_pos h1,if_pos h1];simp
   ·rw [if_neg h1,if_neg h1]
    by_cases h2:x.1 < e.1
    ·rw [if_pos h2];have:=ih h.2;simp only [List.length_cons]
     omega
    ·rw [if_neg h2];have:zdi l e.1=none:=by
      have Bq:∀y ∈ l,y.1≠e.1:=fun y hy=> by have:=h.1 y hy;omega
      clear ih h
      induction l with
      | nil=> rfl
      | cons y l ih=>
        unfold zdi;rw [if_neg (Bq y (by simp)),ih (fun z hz=> Bq z (by simp [hz]))]
     rw [this];simp
theorem zjW {a m b:List En} {k:Nat} (ha:∀x ∈ a,x.1 < k) (hb:∀y ∈ b,k < y.1):zdi (a++m++b) k=zdi m k:=by
 induction a with
 | nil =>
   simp only [List.nil_append]
   induction m with
   | nil=>
     simp only [List.nil_append]
     induction b with
     | nil=> rfl
     | cons y b ih=>
       have:=hb y (by simp)
       unfold zdi;rw [if_neg (by omega),ih (fun z hz=> hb z (by simp [hz]))]
       rfl
   | cons x m ih=>
     simp only [List.cons_append];unfold zdi;rw [ih]
 | cons x a ih=>
   have:=ha x (by simp)
   simp only [List.cons_append];rw [zdi,if_neg (by omega),ih (fun z hz=> ha z (by simp [hz]))]
def Tr:Nat→Type
 | 0=> List En
 | d+1=> List (Tr d)
def zS (t:Tr 0):List En:=t
def zx {d:Nat} (t:Tr (d+1)):List (Tr d):=t
def mkT {d:Nat} (ks:List (Tr d)):Tr (d+1):=ks
def zbM (es:List En):Tr 0:=es
@[simp] theorem zpk {d:Nat} (ks:List (Tr d)):zx (mkT ks)=ks:=rfl
@[simp] theorem row_leaf (es:List En):zS (zbM es)=es:=rfl
def flatT:{d:Nat}→Tr d→List En
 | 0,t=> zS t
 | _+1,t=> (zx t).flatMap flatT
def zad:{d:Nat}→Tr d→Nat
 | 0,t=> ((zS t).head?.map (·.1)).getD 0
 | _+1,t=> ((zx t).head?.map zad).getD 0
def zC:{d:Nat}→Tr d→List Nat
 | 0,t=> (zS t).map (·.1)
 | _+1,t=> (zx t).map zad
def zH:{d:Nat}→Tr d→Nat
 | 0,t=> (zS t).length
 | _+1,t=> (zx t).length
def zax:{d:Nat}→Tr d→Prop
 | 0,_=> True
 | _+1,t=> ∀k ∈ zx t,3≤zH k∧zH k≤6∧zax k
structure zag {d:Nat} (t:Tr d):Prop where
 lo:3≤zH t
 hi:zH t≤6
 kids:zax t
theorem zag.kid {d:Nat} {t:Tr (d+1)} (h:zax t) {k:Tr d} (hk:k ∈ zx t):zag k:=by
 obtain ⟨h1,h2,h3⟩:=h k hk;exact ⟨h1,h2,h3⟩
theorem zgY:{d:Nat}→(t:Tr d)→(zC t).length=zH t
 | 0,t=> by simp [zC,zH]
 | _+1,t=> by simp [zC,zH]
theorem zhQ:∀{d:Nat} {t:Tr d},0 < zH t→zax t→∃x l,flatT t=x::l∧zad t=x.1
 | 0,t,h,_=> by
   have h:0 < (zS t).length:=h;unfold flatT zad
   cases hk:zS t with
   | nil=> rw [hk] at h;simp at h
   | cons x l=> exact ⟨x,l,rfl,rfl⟩
 | d +1,t,h,hK=> by
   have h:0 < (zx t).length:=h;unfold flatT zad
   cases hk:zx t with
   | nil=> rw [hk] at h;simp at h
   | cons k ks=>
     obtain ⟨h1,-,h3⟩:=hK k (by rw [hk];simp)
     obtain ⟨x,l,e1,e2⟩:=zhQ (by omega) h3
     exact ⟨x,l++ks.flatMap flatT,by rw [List.flatMap_cons,e1];rfl,e2⟩
theorem zag.first {d:Nat} {t:Tr d} (h:zag t):∃x l,flatT t=x::l∧zad t=x.1:=zhQ (by have:=h.lo;omega) h.kids
def zP (ks:List Nat) (k:Nat):Nat:=(ks.filter fun x=> decide (x≤k)).length - 1
theorem zn6 {ks:List Nat} {k:Nat} (h:ks≠ []):zP ks k < ks.length:=by
 unfold zP;have h1:=List.length_filter_le (fun x=> decide (x≤k)) ks;have:0 < ks.length:=List.length_pos_iff.2 h
 omega
def zit (l:List Nat):Prop:=l.Pairwise (· < ·)
theorem zfj {l:List Nat} (h:zit l) (k:Nat):l.filter (fun x=> decide (x≤k))=l.take (l.filter fun x=> decide (x≤k)).length:=by
 induction l with
 | nil=> rfl
 | cons x l ih=>
   unfold zit at h ih;rw [List.pairwise_cons] at h
   by_cases hx:x≤k
   ·rw [List.filter_cons_of_pos (by simpa using hx)]
    rw [List.length_cons,List.take_succ_cons];rw [← ih h.2]
   ·have:l.filter (fun x=> decide (x≤k))= []:=by
        rw [List.filter_eq_nil_iff];intro y hy;have:=h.1 y hy;simp;omega
    rw [List.filter_cons_of_neg (by simpa using hx),this]
    rfl
theorem zhX {ks:List Nat} (h:zit ks) (k j:Nat) (hj:zP ks k < j) (x:Nat) (hx:ks[j]? =some x):k < x:=by
 by_cases Il:x≤k
 ·exfalso;have hm:x ∈ ks.filter (fun x=> decide (x≤k)):=List.mem_filter.2 ⟨List.mem_of_getElem? hx,by simpa using Il⟩
  rw [zfj h k] at hm;obtain ⟨i,hi⟩:=List.getElem?_of_mem hm;have FS:i < (ks.filter fun x=> decide (x≤k)).length:=by
   have:=(List.getElem?_eq_some_iff.1 hi).1;rw [List.length_take] at this
   omega
  rw [List.getElem?_take_of_lt FS] at hi;unfold zP at hj;have Fr:i < j:=by omega
  have hp:=List.pairwise_iff_getElem.1 h i j (List.getElem?_eq_some_iff.1 hi).1 (List.getElem?_eq_some_iff.1 hx).1 Fr;obtain ⟨_,e1⟩:=List.getElem?_eq_some_iff.1 hi;obtain ⟨_,e2⟩:=List.getElem?_eq_some_iff.1 hx;rw [e1,e2] at hp
  omega
 ·omega
theorem zmI {ks:List Nat} (h:zit ks) (k:Nat) (x:Nat) (hx:ks[zP ks k]? =some x) (h0:0 < zP ks k∨∃y ∈ ks,y≤k):x≤k:=by
 have BP:0 < (ks.filter fun x=> decide (x≤k)).length:=by
  rcases h0 with h0 | ⟨y,hy,bv⟩
  ·unfold zP at h0;omega
  ·exact List.length_pos_of_mem (List.mem_filter.2 ⟨hy,by simpa using bv⟩)
 have hlt:zP ks k < (ks.filter fun x=> decide (x≤k)).length:=by unfold zP;omega
 have e:(ks.filter fun x=> decide (x≤k))[zP ks k]? =some x:=by
  rw [zfj h k,List.getElem?_take_of_lt hlt];exact hx
 have:=(List.mem_filter.1 (List.mem_of_getElem? e)).2
 simpa using this
def zbv {α β:Type} (f:List α→β) (l:List α):List β:=
 if l.length=0 then [] else if l.length≤6 then [f l] else [f (l.take (l.length / 2)),f (l.drop (l.length / 2))]
def zho:{d:Nat}→Tr d→En→List (Tr d)
 | 0,t,e=> zbv zbM (zaR (zS t) e)
 | _+1,t,e=> zbv mkT ((zx t).take (zP (zC t) e.1)++((zx t)[zP (zC t) e.1]?.map fun c=> zho c e).getD []++(zx t).drop (zP (zC t) e.1+1))
def zdK:{d:Nat}→Tr d→Nat→Option En
 | 0,t,k=> zb2 (zS t) k
 | _+1,t,k=> ((zx t)[zP (zC t) k]?.map fun c=> zdK c k).getD none
theorem zgm {α β:Type} (f:List α→β) (g:β→List En) (h:List α→List En) (hf:∀l,g (f l)=h l) (XG:∀a b,h (a++b)=h a++h b) (h0:h []= []) (l:List α):(zbv f l).flatMap g=h l:=by
 unfold zbv
 split
 ·rename_i e
  rw [List.eq_nil_of_length_eq_zero e,h0];rfl
 ·split
  ·simp [hf]
  ·simp only [List.flatMap_cons,List.flatMap_nil,List.append_nil,hf];rw [← XG,List.take_append_drop]
theorem zgn (l:List En):(zbv zbM l).flatMap flatT=l:=zgm zbM flatT id (fun _=> rfl) (fun _ _=> rfl) rfl l
theorem zj9 {d:Nat} (l:List (Tr d)):(zbv mkT l).flatMap flatT=l.flatMap flatT:=zgm mkT flatT (fun l=> l.flatMap flatT) (fun _=> rfl) (fun _ _=> List.flatMap_append) rfl l
theorem zdP:{d:Nat}→{t:Tr d}→zax t→zac (flatT t)→zit (zC t)
 | 0,t,_,h=> by
   unfold zit zC;rw [List.pairwise_map];exact h
 | d+1,t,hK,h=> by
   unfold zit zC;rw [List.pairwise_map];have h':zac ((zx t).flatMap flatT):=h;unfold zac at h';rw [List.pairwise_flatMap] at h';refine h'.2.imp_of_mem ?_;intro a b ha hb Dh;obtain ⟨x,l,e1,e2⟩:=(zag.kid hK ha).first
   obtain ⟨y,m,e3,e4⟩:=(zag.kid hK hb).first
   rw [e2,e4];exact Dh x (by rw [e1];simp) y (by rw [e3];simp)
theorem zn1:{d:Nat}→{t:Tr d}→zag t→zac (flatT t)→∀x ∈ flatT t,zad t≤x.1:=by
 intro d t h hr x hx;obtain ⟨y,l,e1,e2⟩:=h.first
 rw [e1] at hx hr;unfold zac at hr;rw [List.pairwise_cons] at hr;rw [e2];rcases List.mem_cons.1 hx with rfl | hx
 ·exact Nat.le_refl _
 ·exact Nat.le_of_lt (hr.1 x hx)
theorem zbK {d:Nat} (ks:List (Tr d)) (i:Nat) (c:Tr d) (hc:ks[i]? =some c):ks.flatMap flatT=(ks.take i).flatMap flatT++flatT c++(ks.drop (i+1)).flatMap flatT:=by
 have h1:ks=ks.take i++c::ks.drop (i+1):=by
  obtain ⟨hi,e⟩:=List.getElem?_eq_some_iff.1 hc;rw [← e,← List.drop_eq_getElem_cons hi,List.take_append_drop]
 conv=> lhs;rw [h1]
 rw [List.flatMap_append,List.flatMap_cons,List.append_assoc]
theorem zfr {d:Nat} {t:Tr (d+1)} (hK:zax t) (hr:zac (flatT t)) (k:Nat) {c:Tr d} (hc:(zx t)[zP (zC t) k]? =some c):
 (∀x ∈ ((zx t).take (zP (zC t) k)).flatMap flatT,x.1 < k)∧(∀y ∈ ((zx t).drop (zP (zC t) k+1)).flatMap flatT,k < y.1)∧(zP (zC t) k≠0→zad c≤k):=by
 have Eu:=zdP hK hr;have Cl:∀(j:Nat) (c':Tr d),(zx t)[j]? =some c'→(zC t)[j]? =some (zad c'):=fun j c' h=> by
  show ((zx t).map zad)[j]? =_
  rw [List.getElem?_map,h];rfl
 have Af:zP (zC t) k≠0→zad c≤k:=fun h0=> zmI Eu k _ (Cl _ _ hc) (.inl (by omega))
 have Ha:zac ((zx t).flatMap flatT):=hr;have Gg:=zbK (zx t) _ c hc;refine ⟨fun x hx=> ?_,fun y hy=> ?_,Af⟩
 ·have h0:zP (zC t) k≠0:=by
   intro e;rw [e] at hx;simp at hx
  have Ce:c ∈ zx t:=List.mem_of_getElem? hc;obtain ⟨y,l,e1,e2⟩:=(zag.kid hK Ce).first
  rw [Gg,List.append_assoc] at Ha;have:=Ha.cross x hx y (by rw [e1];simp)
  have:=Af h0
  omega
 ·obtain ⟨c',Jc,bu⟩:=List.mem_flatMap.1 hy;obtain ⟨j,hj⟩:=List.getElem?_of_mem Jc;rw [List.getElem?_drop] at hj;have hb:=zhX Eu k (zP (zC t) k+1+j) (by omega) _ (Cl _ _ hj)
  have B7:zac (flatT c'):=by
   unfold zac at Ha;rw [List.pairwise_flatMap] at Ha;exact Ha.1 c' (List.mem_of_getElem? hj)
  have:=zn1 (zag.kid hK (List.mem_of_getElem? hj)) B7 y bu
  omega
theorem zcA {d:Nat} {t:Tr (d+1)} (h:0 < zH t) (k:Nat):∃c,(zx t)[zP (zC t) k]? =some c:=by
 have hl:=zgY t;have:zP (zC t) k < (zx t).length:=by
  have h2:zC t≠ []:=fun e=> by rw [e] at hl;simp at hl;omega
  have:=zn6 (k:=k) h2;rw [hl] at this;exact this
 exact ⟨_,List.getElem?_eq_getElem this⟩
theorem zbu {d:Nat} {t:Tr (d+1)} (hr:zac (flatT t)) {c:Tr d} (hc:c ∈ zx t):zac (flatT c):=by
 have Ha:zac ((zx t).flatMap flatT):=hr;unfold zac at Ha;rw [List.pairwise_flatMap] at Ha;exact Ha.1 c hc
theorem zkg:{d:Nat}→{t:Tr d}→0 < zH t→zax t→zac (flatT t)→(e:En)→(zho t e).flatMap flatT=zaR (flatT t) e
 | 0,t,_,_,_,e=> by
   unfold zho;rw [zgn];rfl
 | d+1,t,h0,hK,hr,e=> by
   obtain ⟨c,hc⟩:=zcA h0 e.1;obtain ⟨h1,h2,-⟩:=zfr hK hr e.1 hc;have Ce:=List.mem_of_getElem? hc;have hF:=zag.kid hK Ce;have ih:=zkg (by have:=hF.lo;omega) hF.kids (zbu hr Ce) e
   unfold zho;rw [zj9,hc];simp only [Option.map_some,Option.getD_some];rw [List.flatMap_append,List.flatMap_append,ih]
   show _=zaR ((zx t).flatMap flatT) e
   rw [zbK _ _ c hc,zop h1 h2]
theorem zgg:{d:Nat}→{t:Tr d}→0 < zH t→zax t→zac (flatT t)→(k:Nat)→zdK t k=zb2 (flatT t) k
 | 0,t,_,_,_,k=> rfl
 | d + 1,t,h0,hK,hr,k=> by
   obtain ⟨c,hc⟩:=zcA h0 k;obtain ⟨h1,h2,h3⟩:=zfr hK hr k hc;have Ce:=List.mem_of_getElem? hc;have hF:=zag.kid hK Ce;have ih:=zgg (by have:=hF.lo;omega) hF.kids (zbu hr Ce) k
   unfold zdK;rw [hc];simp only [Option.map_some,Option.getD_some];rw [ih]
   show _=zb2 ((zx t).flatMap flatT) k
   rw [zbK _ _ c hc];unfold zb2;have hb:(((zx t).drop (zP (zC t) k+1)).flatMap flatT).filter (fun x=> decide (x.1≤k))= []:=by
     rw [List.filter_eq_nil_iff];intro y hy;have:=h2 y hy;simp;omega
   rw [List.filter_append,List.filter_append,hb,List.append_nil,List.getLast?_append]
   by_cases hi:zP (zC t) k=0
   ·rw [hi];simp
   ·obtain ⟨x,l,e1,e2⟩:=hF.first
    have hx:x ∈ (flatT c).filter (fun x=> decide (x.1≤k)):=by
       rw [List.mem_filter];exact ⟨by rw [e1];simp,by have:=h3 hi;simp;omega⟩
    have Aj:(flatT c).filter (fun x=> decide (x.1≤k))≠ []:=List.ne_nil_of_mem hx;rw [List.getLast?_eq_some_getLast Aj]
    rfl
def zcT {d:Nat} (lo:Nat) (l:List (Tr d)):Prop:=(∃a,l= [a]∧lo≤zH a∧zH a≤6∧zax a)∨∃a b,l= [a,b]∧zag a∧zag b
theorem zbO {α β:Type} (f:List α→β) {l:List α} (h0:0 < l.length) (h6:l.length≤6):zbv f l= [f l]:=by
 unfold zbv;rw [if_neg (by omega),if_pos h6]
theorem zdT {α β:Type} (f:List α→β) {l:List α} (h6:6 < l.length):zbv f l= [f (l.take (l.length / 2)),f (l.drop (l.length / 2))]:=by
 unfold zbv;rw [if_neg (by omega),if_neg (by omega)]
theorem zc1 (l:List En) (lo:Nat) (h0:0 < l.length) (h1:lo≤l.length) (h2:l.length≤12):zcT lo (zbv zbM l):=by
 by_cases h6:l.length≤6
 ·rw [zbO zbM h0 h6];exact .inl ⟨_,rfl,h1,h6,trivial⟩
 ·rw [zdT zbM (by omega)]
  refine .inr ⟨_,_,rfl,⟨?_, ?_,trivial⟩,⟨?_, ?_,trivial⟩⟩
  ·show 3≤(l.take (l.length / 2)).length
   rw [List.length_take];omega
  ·show (l.take (l.length / 2)).length≤6
   rw [List.length_take];omega
  ·show 3≤(l.drop (l.length / 2)).length
   rw [List.length_drop];omega
  ·show (l.drop (l.length / 2)).length≤6
   rw [List.length_drop];omega
theorem zbL {d:Nat} (l:List (Tr d)):zax (mkT l)↔∀k ∈ l,zag k:=by
 constructor
 ·intro h k hk;exact zag.kid (t:=mkT l) h hk
 ·intro h k hk;exact ⟨(h k hk).lo,(h k hk).hi,(h k hk).kids⟩
theorem zdS {d:Nat} (l:List (Tr d)) (lo:Nat) (h0:0 < l.length) (h1:lo≤l.length) (h2:l.length≤12) (hF:∀k ∈ l,zag k):zcT lo (zbv mkT l):=by
 by_cases h6:l.length≤6
 ·rw [zbO mkT h0 h6];exact .inl ⟨_,rfl,h1,h6,(zbL l).2 hF⟩
 ·rw [zdT mkT (by omega)]
  refine .inr ⟨_,_,rfl,⟨?_, ?_,(zbL _).2 fun k hk=> hF k (List.mem_of_mem_take hk)⟩,⟨?_, ?_,(zbL _).2 fun k hk=> hF k (List.mem_of_mem_drop hk)⟩⟩
  ·show 3≤(l.take (l.length / 2)).length
   rw [List.length_take];omega
  ·show (l.take (l.length / 2)).length≤6
   rw [List.length_take];omega
  ·show 3≤(l.drop (l.length / 2)).length
   rw [List.length_drop];omega
  ·show (l.drop (l.length / 2)).length≤6
   rw [List.length_drop];omega
theorem zcT.full {d:Nat} {l:List (Tr d)} (h:zcT 3 l):∀k ∈ l,zag k:=by
 rcases h with ⟨a,rfl,h1,h2,h3⟩ | ⟨a,b,rfl,h1,h2⟩
 ·intro k hk;simp at hk;subst hk;exact ⟨h1,h2,h3⟩
 ·intro k hk;simp at hk;rcases hk with rfl | rfl
  ·exact h1
  ·exact h2
theorem zcT.len {d lo:Nat} {l:List (Tr d)} (h:zcT lo l):1≤l.length∧l.length≤2:=by
 rcases h with ⟨a,rfl,-⟩ | ⟨a,b,rfl,-⟩ <;> simp
theorem zcT.mono {d lo lo':Nat} {l:List (Tr d)} (h:zcT lo l) (hl:lo'≤lo):zcT lo' l:=by
 rcases h with ⟨a,e,h1,h2⟩ | h
 ·exact .inl ⟨a,e,by omega,h2⟩
 ·exact .inr h
theorem zhd:{d:Nat}→{t:Tr d}→0 < zH t→zH t≤6→zax t→zac (flatT t)→(e:En)→zcT (zH t) (zho t e)
 | 0,t,h0,h6,_,hr,e=> by
   have hl:=zeZ (zS t) e hr;have OF:0 < (zS t).length:=h0;have WV:(zS t).length≤6:=h6;unfold zho;exact zc1 _ _ (by split at hl <;> omega) (by show (zS t).length≤_;split at hl <;> omega) (by split at hl <;> omega)
 | d +1,t,h0,h6,hK,hr,e=> by
   obtain ⟨c,hc⟩:=zcA h0 e.1;have Ce:=List.mem_of_getElem? hc;have hF:=zag.kid hK Ce;have ih:=(zhd (by have:=hF.lo;omega) hF.hi hF.kids (zbu hr Ce) e).mono hF.lo
   have hlt:=(List.getElem?_eq_some_iff.1 hc).1;have WV:(zx t).length≤6:=h6;have E9:=ih.len;unfold zho;rw [hc];simp only [Option.map_some,Option.getD_some];refine zdS _ _ ?_ ?_ ?_ ?_
   ·simp only [List.length_append,List.length_take,List.length_drop];omega
   ·show (zx t).length≤_
    simp only [List.length_append,List.length_take,List.length_drop];omega
   ·simp only [List.length_append,List.length_take,List.length_drop];omega
   ·intro k hk;rcases List.mem_append.1 hk with hk | hk
    ·rcases List.mem_append.1 hk with hk | hk
     ·exact zag.kid hK (List.mem_of_mem_take hk)
     ·exact ih.full k hk
    ·exact zag.kid hK (List.mem_of_mem_drop hk)
end
section
open Go.RowKit
def zbk (S:Nat→Prop) (w w':World):Prop:=∀k,S k→w'.heap[k]? =w.heap[k]?
theorem zbk.of_below {S:Nat→Prop} {w w':World} {B:Nat} (hb:Below B w w') (hs:∀k,S k→k < B):zbk S w w':=fun k hk=> hb.block k (hs k hk)
def SIn (S:Nat→Prop) (a:Option Addr):Prop:=∀b o,a=some ⟨b,o,none⟩→S b
theorem zau {S:Nat→Prop} {w w':World} (hs:zbk S w w') {b:Nat} (hb:S b) (o:Nat):w'.cell? ⟨b,o,none⟩=w.cell? ⟨b,o,none⟩:=by
 simp only [World.cell?];rw [hs b hb]
theorem ziq.same {S:Nat→Prop} {w w':World} {a:Option Addr} {n:Nat} {ks:List Nat} (h:ziq w a n ks) (ha:SIn S a) (hs:zbk S w w'):ziq w' a n ks:=by
 refine ⟨h.1,fun i r hr=> ?_⟩;obtain ⟨b,o,e,h1,h2,h3⟩:=h.2 i r hr;have hb:=ha b o e;exact ⟨b,o,e,(zau hs hb _).trans h1,(zau hs hb _).trans h2,(zau hs hb _).trans h3⟩
theorem Sl.same {S:Nat→Prop} {w w':World} {a:Option Addr} {n:Nat} {xs:List Value} (h:Sl w a n xs) (ha:SIn S a) (hs:zbk S w w'):Sl w' a n xs:=by
 refine ⟨h.1,fun i r hr=> ?_⟩;obtain ⟨b,o,e,h1⟩:=h.2 i r hr;exact ⟨b,o,e,(zau hs (ha b o e) _).trans h1⟩
def atV (n:Nat):Value:= .int .u32 (n:Int)
def zv (p:Nat):Value:= .pointer (some ⟨p,0,none⟩)
structure zbE (w:World) (S:Nat→Prop) (p:Nat) (leaf:Bool) (ka:Option Addr) (kn kc:Nat) (va:Option Addr) (vn vc:Nat) (ca:Option Addr) (cn cc:Nat):Prop where
 obj:∃at',w.heap[p]? =some (.cells #[.bool leaf, .slice ka kn kc, .slice va vn vc, .slice ca cn cc,at'] 251 (0,0))
 self:S p
 keys:SIn S ka
 vals:SIn S va
 kids:SIn S ca
theorem zbE.same {w w':World} {S:Nat→Prop} {p:Nat} {leaf:Bool} {ka va ca:Option Addr} {kn kc vn vc cn cc:Nat} (h:zbE w S p leaf ka kn kc va vn vc ca cn cc) (hs:zbk S w w'):zbE w' S p leaf ka kn kc va vn vc ca cn cc:=by
 obtain ⟨at',e⟩:=h.obj;exact ⟨⟨at',by rw [hs p h.self];exact e⟩,h.self,h.keys,h.vals,h.kids⟩
theorem zbE.more {w:World} {S S':Nat→Prop} {p:Nat} {leaf:Bool} {ka va ca:Option Addr} {kn kc vn vc cn cc:Nat} (h:zbE w S p leaf ka kn kc va vn vc ca cn cc) (hs:∀k,S k→S' k):zbE w S' p leaf ka kn kc va vn vc ca cn cc:=
 ⟨h.obj,hs _ h.self,fun b o e=> hs _ (h.keys b o e),fun b o e=> hs _ (h.vals b o e),fun b o e=> hs _ (h.kids b o e)⟩
theorem zbE.reads {w:World} {S:Nat→Prop} {p:Nat} {leaf:Bool} {ka va ca:Option Addr} {kn kc vn vc cn cc:Nat} (h:zbE w S p leaf ka kn kc va vn vc ca cn cc):
 w.cell? ⟨p,0,none⟩=some (.bool leaf)∧w.cell? ⟨p,1,none⟩=some (.slice ka kn kc)∧w.cell? ⟨p,2,none⟩=some (.slice va vn vc)∧w.cell? ⟨p,3,none⟩=some (.slice ca cn cc)∧p < w.heap.size:=by
 obtain ⟨at',e⟩:=h.obj;refine ⟨?_, ?_, ?_, ?_,(zg e).1⟩ <;> simp [World.cell?,e]
def zQ (w:World) (S:Nat→Prop):{d:Nat}→Nat→Tr d→Prop
 | 0,p,t=> ∃ka kc va vc,zbE w S p true ka (zS t).length kc va (zS t).length vc none 0 0∧ziq w ka (zS t).length (zC t)∧Sl w va (zS t).length ((zS t).map fun e=> atV e.2)
 | d +1,p,t=> ∃ka kc ca cc,∃ps:List Nat,zbE w S p false ka (zx t).length kc none 0 0 ca (zx t).length cc∧ziq w ka (zx t).length (zC t)∧Sl w ca (zx t).length (ps.map zv)∧ps.length=(zx t).length∧
     ∀(i q:Nat) (k:Tr d),ps[i]? =some q→(zx t)[i]? =some k→zQ w S q k
theorem zQ.same {S:Nat→Prop} {w w':World} (hs:zbk S w w'):∀{d:Nat} {p:Nat} {t:Tr d},zQ w S p t→zQ w' S p t
 | 0,p,t,h=> by
   obtain ⟨ka,kc,va,vc,h1,h2,h3⟩:=h;exact ⟨ka,kc,va,vc,h1.same hs,h2.same h1.keys hs,h3.same h1.vals hs⟩
 | d+1,p,t,h=> by
   obtain ⟨ka,kc,ca,cc,ps,h1,h2,h3,h4,h5⟩:=h;exact ⟨ka,kc,ca,cc,ps,h1.same hs,h2.same h1.keys hs,h3.same h1.kids hs,h4,fun i q k hq hk=> zQ.same hs (h5 i q k hq hk)⟩
theorem zQ.more {S S':Nat→Prop} {w:World} (hs:∀k,S k→S' k):∀{d:Nat} {p:Nat} {t:Tr d},zQ w S p t→zQ w S' p t
 | 0,p,t,h=> by
   obtain ⟨ka,kc,va,vc,h1,h2,h3⟩:=h;exact ⟨ka,kc,va,vc,h1.more hs,h2,h3⟩
 | d+1,p,t,h=> by
   obtain ⟨ka,kc,ca,cc,ps,h1,h2,h3,h4,h5⟩:=h;exact ⟨ka,kc,ca,cc,ps,h1.more hs,h2,h3,h4,fun i q k hq hk=> zQ.more hs (h5 i q k hq hk)⟩
theorem zQ.box {S:Nat→Prop} {w:World}:{d:Nat}→{p:Nat}→{t:Tr d}→zQ w S p t→∃ka kc va vn vc ca cn cc,zbE w S p (d==0) ka (zH t) kc va vn vc ca cn cc∧ziq w ka (zH t) (zC t)
 | 0,p,t,h=> by
   obtain ⟨ka,kc,va,vc,h1,h2,h3⟩:=h;exact ⟨ka,kc,va,_,vc,none,0,0,h1,h2⟩
 | d+1,p,t,h=> by
   obtain ⟨ka,kc,ca,cc,ps,h1,h2,h3,h4,h5⟩:=h;exact ⟨ka,kc,none,0,0,ca,_,cc,h1,h2⟩
theorem zob {ks:List Nat} (h:ks.Pairwise (· < ·)) (k:Nat):(ks.filter fun x=> decide (x≤k)).length=lbN ks k+if k ∈ ks then 1 else 0:=by
 unfold lbN
 induction ks with
 | nil=> simp
 | cons x ks ih=>
   rw [List.pairwise_cons] at h;have ih:=ih h.2
   by_cases h1:x < k
   ·rw [List.filter_cons_of_pos (by simp;omega),List.filter_cons_of_pos (by simpa using h1),List.length_cons,List.length_cons,ih]
    have hm:(k ∈ x::ks)↔k ∈ ks:=by
        rw [List.mem_cons]
        constructor
        ·rintro (e | e)
         ·omega
         ·exact e
        ·exact .inr
    simp only [hm]
    omega
   ·have CU:∀(q:Nat→Bool),(∀y ∈ ks,q y=false)→ks.filter q= []:=fun q hq=> List.filter_eq_nil_iff.2 (fun y hy=> by rw [hq y hy];simp)
    by_cases h2:x=k
    ·subst h2;rw [List.filter_cons_of_pos (by simp),List.filter_cons_of_neg (by simp)]
     rw [CU _ (fun y hy=> by have:=h.1 y hy;simp;omega),CU _ (fun y hy=> by have:=h.1 y hy;simp;omega)]
     simp
    ·rw [List.filter_cons_of_neg (by simp;omega),List.filter_cons_of_neg (by simpa using h1)]
     rw [CU _ (fun y hy=> by have:=h.1 y hy;simp;omega),CU _ (fun y hy=> by have:=h.1 y hy;simp;omega)]
     have:¬k ∈ x::ks:=by
      rw [List.mem_cons];rintro (e | e)
      ·omega
      ·have:=h.1 k e;omega
     rw [if_neg this]
     rfl
def zdI (ks:List Nat) (k:Nat):Int:=((ks.filter fun x=> decide (x≤k)).length:Int) - 1
theorem zjT {S:Nat→Prop} {w:World} {d p:Nat} {t:Tr d} (h:zQ w S p t) (hn:zH t≤1000000) (hs:(zC t).Pairwise (· < ·)) (k:Nat):
 Calls Tryz.prog 121 #[zv p,za2 k] w fun e w'=> e= .returned (.int .i64 (zdI (zC t) k))∧Below w.heap.size w w':=by
 obtain ⟨ka,kc,va,vn,vc,ca,cn,cc,AH,Eu⟩:=h.box;obtain ⟨-,c1,-,-,hp⟩:=AH.reads;have Aq:Below w.heap.size w (w.alloc (.cells #[.int .u16 (zj k:Int), .int .u32 (zo k:Int), .int .u64 (zp k:Int)] 132)):=zr.alloc zl _;have x0:(w.alloc (.cells #[.int .u16 (zj k:Int), .int .u32 (zo k:Int), .int .u64 (zp k:Int)] 132)).cell? ⟨w.heap.size,0,none⟩=some (.int .u16 (zj k:Int)):=by simp
 have x1:(w.alloc (.cells #[.int .u16 (zj k:Int), .int .u32 (zo k:Int), .int .u64 (zp k:Int)] 132)).cell? ⟨w.heap.size,1,none⟩=some (.int .u32 (zo k:Int)):=by simp
 have x2:(w.alloc (.cells #[.int .u16 (zj k:Int), .int .u32 (zo k:Int), .int .u64 (zp k:Int)] 132)).cell? ⟨w.heap.size,2,none⟩=some (.int .u64 (zp k:Int)):=by simp
 have d1:=zu c1 (.cells #[.int .u16 (zj k:Int), .int .u32 (zo k:Int), .int .u64 (zp k:Int)] 132);have Ks:=zob hs k;have hlt:lbN (zC t) k≤zH t:=by
  unfold lbN;have:=List.length_filter_le (fun x=> decide (x < k)) (zC t);rw [zgY] at this;exact this
 have Rc:=zh (zdw ka (zH t) kc (zC t) k ((w.alloc (.cells #[.int .u16 (zj k:Int), .int .u32 (zo k:Int), .int .u64 (zp k:Int)] 132)).drew) (show ziq (w.alloc _).drew _ _ _ from (Eu.below Aq zl).below (Below.drewB zr) zl) hn hs);have Yg:zdI (zC t) k=if k ∈ zC t then (lbN (zC t) k:Int) else (lbN (zC t) k:Int) - 1:=by
  unfold zdI;rw [Ks]
  split <;> simp
 have ZG:=zh Yg;unfold za2 at Rc ⊢;unfold zv;clear Yg Ks Eu AH h hs;go_enter Tryz.func121,Tryz.ntmps121;go_wp2_with fail;generalize Zu:(w.alloc (.cells #[.int .u16 (zj k:Int), .int .u32 (zo k:Int), .int .u64 (zp k:Int)] 132))=w0 at *;generalize hB:w.heap.size=B at *;have hS:w0.drew.cell? ⟨B,0,none⟩=some (.int .u16 (zj k:Int))∧w0.drew.cell? ⟨B,1,none⟩=some (.int .u32 (zo k:Int))∧w0.drew.cell? ⟨B,2,none⟩=some (.int .u64 (zp k:Int))∧w0.drew.cell? ⟨p,1,none⟩=some (.slice ka (zH t) kc):=⟨x0,x1,x2,d1⟩;have Bg:∀w5,Below w0.drew.heap.size w0.drew w5→w5.cell? ⟨B,0,none⟩=some (.int .u16 (zj k:Int))∧w5.cell? ⟨B,1,none⟩=some (.int .u32 (zo k:Int))∧w5.cell? ⟨B,2,none⟩=some (.int .u64 (zp k:Int))∧w5.cell? ⟨p,1,none⟩=some (.slice ka (zH t) kc):=fun w5 h5=>
  ⟨(h5.cell (zb _ _ x0)).trans x0,(h5.cell (zb _ _ x1)).trans x1,(h5.cell (zb _ _ x2)).trans x2,(h5.cell (zb _ _ d1)).trans d1⟩
 have B9:=zh Bg;have JQ:Hid (∀w5,Below w0.drew.heap.size w0.drew w5→Below B w w5):=zh fun w5 h5=> Aq.trans (Below.trans (Below.drewB (Below.refl B w0)) (Below.mono h5 (by show B≤w0.heap.size;have:=Aq.size;omega)))
 clear x0 x1 x2 d1 c1 Bg Zu
 by_cases hm:k ∈ zC t
 ·rw [decide_eq_true hm] at Rc;have HM:=zh hm;clear hm;generalize KE:lbN (zC t) k=lb at *
  go_region_held (fun W'=> W'.cell? ⟨B,0,none⟩=some (.int .u16 (zj k:Int))∧W'.cell? ⟨B,1,none⟩=some (.int .u32 (zo k:Int))∧W'.cell? ⟨B,2,none⟩=some (.int .u64 (zp k:Int))∧W'.cell? ⟨p,1,none⟩=some (.slice ka (zH t) kc)) (first | exact Ca | exact hS)
   (first | (go_at_call 177;refine Rc.out.mono ?_;rintro e w5 ⟨rfl,Ag⟩;have Ca:=B9.out w5 Ag))
  all_goals
   go_wp2_with fail;go_ret;exact ⟨by rw [ZG.out,if_pos HM.out];rfl,by rw [hB];exact JQ.out _ Ag⟩
 ·rw [decide_eq_false hm] at Rc;have HM:=zh hm;clear hm;generalize KE:lbN (zC t) k=lb at *;have Ab:IntKind.i64.wrap ((lb:Int) - 1)=(lb:Int) - 1:=zw _ (by omega)
  go_region_held (fun W'=> W'.cell? ⟨B,0,none⟩=some (.int .u16 (zj k:Int))∧W'.cell? ⟨B,1,none⟩=some (.int .u32 (zo k:Int))∧W'.cell? ⟨B,2,none⟩=some (.int .u64 (zp k:Int))∧W'.cell? ⟨p,1,none⟩=some (.slice ka (zH t) kc)) (first | exact Ca | exact hS)
   (first | (go_at_call 177;refine Rc.out.mono ?_;rintro e w5 ⟨rfl,Ag⟩;have Ca:=B9.out w5 Ag))
  all_goals
   go_wp2_with fail;go_ret;exact ⟨by rw [ZG.out,if_neg HM.out];rfl,by rw [hB];exact JQ.out _ Ag⟩
theorem zpj (ks:List Nat) (k:Nat):max (zdI ks k) 0=(zP ks k:Int):=by
 unfold zdI zP
 omega
theorem zmJ {S:Nat→Prop} {w:World} {d p:Nat} {t:Tr d} (h:zQ w S p t) (hS:∀j,S j→j < w.heap.size) (hn:zH t≤1000000) (hs:(zC t).Pairwise (· < ·)) (k:Nat):
 Calls Tryz.prog 175 #[zv p,za2 k] w fun e w'=> e= .returned (.int .i64 (zP (zC t) k))∧Below w.heap.size w w':=by
 have Aq:Below w.heap.size w (w.alloc (.cells #[.int .u16 (zj k:Int), .int .u32 (zo k:Int), .int .u64 (zp k:Int)] 132)):=zr.alloc zl _;have x0:(w.alloc (.cells #[.int .u16 (zj k:Int), .int .u32 (zo k:Int), .int .u64 (zp k:Int)] 132)).cell? ⟨w.heap.size,0,none⟩=some (.int .u16 (zj k:Int)):=by simp
 have x1:(w.alloc (.cells #[.int .u16 (zj k:Int), .int .u32 (zo k:Int), .int .u64 (zp k:Int)] 132)).cell? ⟨w.heap.size,1,none⟩=some (.int .u32 (zo k:Int)):=by simp
 have x2:(w.alloc (.cells #[.int .u16 (zj k:Int), .int .u32 (zo k:Int), .int .u64 (zp k:Int)] 132)).cell? ⟨w.heap.size,2,none⟩=some (.int .u64 (zp k:Int)):=by simp
 have hh:zQ (w.alloc (.cells #[.int .u16 (zj k:Int), .int .u32 (zo k:Int), .int .u64 (zp k:Int)] 132)) S p t:=h.same (zbk.of_below Aq hS);have HF:=zh (zjT hh hn hs k);have Tx:=zpj (zC t) k;unfold za2 at HF ⊢;unfold zv at HF ⊢;generalize zdI (zC t) k=z at *;generalize Tf:(zP (zC t) k:Int)=kk at *;clear h hh Tf;go_enter Tryz.func175,Tryz.ntmps175;go_wp2_with fail;refine HF.out.mono ?_;rintro e w5 ⟨rfl,Ag⟩;go_wp2_with fail
 all_goals
  go_ret;refine ⟨?_,Aq.trans (Ag.mono Aq.size)⟩
  first
   | (have e:kk=0:=by omega
      rw [e];rfl)
   | (have e:kk=z:=by omega
      rw [e];rfl)
end
section
open Go.RowKit
theorem za {P:Program} {w:World} {ops:Array Oper} {rest:List Oper} {o:Oper} {a:Act} {Q:Exit→Act→World→Prop} (Ib:o.guard=none) (s x:Operand) (t:TypeId)
 (ho:o.op= .call {callee:= .builtin .append,args:=#[s,x],argTypes:=#[t,t]}) {v':Value} {w':World}
 (Be:(Builtin.append_ #[t,t] o.type #[a.eval s,a.eval x]).run P w= .ok v' w') (h:wpList P ops Q rest (a.put o.dst v') w'):wpList P ops Q (o::rest) a w:=
 wpList_plain Ib fun _ hK=> by
  unfold Oper.wp execOp;simp only [ho,resolve,invoke,builtin,Sem.run_bind,Sem.run_pure,Result.andThen_ok,List.map_toArray,List.map_cons,List.map_nil,Be];exact hK _ _ h
theorem zdt (b o n:Nat):(⟨b,o,none⟩:Addr).add n=⟨b,o+n,none⟩:=by unfold Addr.add;split <;> simp_all
section
variable {α:Type} (enc:α→List Value) (k:Nat)
def zB (l:List α):List Value:=l.flatMap enc
theorem zay (p:α) (l:List α):zB enc (p::l)=enc p++zB enc l:=rfl
theorem zaj (a b:List α):zB enc (a++b)=zB enc a++zB enc b:=by simp [zB]
theorem zU (hk:∀x,(enc x).length=k) (l:List α):(zB enc l).length=l.length * k:=by
 induction l with
 | nil=> simp [zB]
 | cons r l ih=> rw [zay,List.length_append,ih,hk,List.length_cons,Nat.add_mul,Nat.one_mul,Nat.add_comm]
theorem zfa (hk:∀x,(enc x).length=k) (l:List α) (i j:Nat) (r:α) (h:l[i]? =some r) (hj:j < k):(zB enc l)[i * k+j]? =(enc r)[j]? :=by
 induction l generalizing i with
 | nil=> simp at h
 | cons x l ih=>
   rw [zay]
   cases i with
   | zero=>
     simp at h;subst h;rw [Nat.zero_mul,Nat.zero_add,List.getElem?_append_left (by rw [hk];exact hj)]
   | succ i=>
     simp only [List.getElem?_cons_succ] at h;rw [List.getElem?_append_right (by rw [hk,Nat.add_mul];omega),hk,← ih i h]
     congr 1
     rw [Nat.add_mul]
     omega
def zM (w:World) (a:Option Addr) (n:Nat) (l:List α):Prop:=
 l.length=n∧∀i r,l[i]? =some r→∃b o,a=some ⟨b,o,none⟩∧∀j x,(enc r)[j]? =some x→w.cell? ⟨b,o+i * k+j,none⟩=some x
theorem zM.nil (w:World) (a:Option Addr):zM enc k w a 0 []:=⟨rfl,fun i r h=> by simp at h⟩
def zK (e:TypeId) (w:World) (B:Nat) (v:Value) (l:List α):Prop:=w.ownsRow B e k v l.length (zB enc l)
end
section
variable {α:Type} {enc:α→List Value} {k:Nat}
theorem zM.same {S:Nat→Prop} {w w':World} {a:Option Addr} {n:Nat} {l:List α} (h:zM enc k w a n l) (ha:SIn S a) (hs:zbk S w w'):zM enc k w' a n l:=by
 refine ⟨h.1,fun i r hr=> ?_⟩;obtain ⟨b,o,e,h1⟩:=h.2 i r hr;exact ⟨b,o,e,fun j x hx=> (zau hs (ha b o e) _).trans (h1 j x hx)⟩
theorem zM.take {w:World} {a:Option Addr} {n:Nat} {l:List α} (h:zM enc k w a n l) (m:Nat) (hm:m≤n):zM enc k w a m (l.take m):=
 ⟨by rw [List.length_take,h.1];omega,fun i r hr=> by
  have hi:i < m:=by
     have:=(zi hr).1;rw [List.length_take] at this
     omega
  rw [List.getElem?_take_of_lt hi] at hr;exact h.2 i r hr⟩
theorem zM.drop {w:World} {b o n:Nat} {l:List α} (h:zM enc k w (some ⟨b,o,none⟩) n l) (m:Nat):zM enc k w (some ⟨b,o+m * k,none⟩) (n - m) (l.drop m):=by
 refine ⟨by rw [List.length_drop,h.1],fun i r hr=> ?_⟩
 rw [List.getElem?_drop] at hr;obtain ⟨b',o',he,h1⟩:=h.2 (m+i) r hr;simp only [Option.some.injEq,Addr.mk.injEq,and_true] at he;obtain ⟨rfl,rfl⟩:=he;refine ⟨b,o+m * k,rfl,fun j x hx=> ?_⟩;rw [show o+m * k+i * k+j=o+(m+i) * k+j by rw [Nat.add_mul];omega]
 exact h1 j x hx
theorem zK.row (hk:∀x,(enc x).length=k) {e:TypeId} {w:World} {B:Nat} {v:Value} {l:List α} (h:zK enc k e w B v l):∃a cap,v= .slice a l.length cap∧zM enc k w a l.length l∧l.length≤cap∧∀b o,a=some ⟨b,o,none⟩→B≤b∧o=0:=by
 rcases h.2 with ⟨rfl,h0⟩ | ⟨g,cap,cur,rfl,Bc,hg,Ge,Ce,Fo,CY⟩
 ·have:l= []:=List.eq_nil_of_length_eq_zero h0;subst this;exact ⟨none,0,rfl,zM.nil _ _ _ _,zl,fun b o e=> by cases e⟩
 ·refine ⟨some ⟨g,0,none⟩,cap,rfl,⟨rfl,fun i r hr=> ⟨g,0,rfl,fun j x hx=> ?_⟩⟩,Ge,fun b o e=> by cases e;exact ⟨Bc,rfl⟩⟩
  have hj:j < k:=by rw [← hk r];exact (zi hx).1
  have h1:=zfa enc k hk l i j r hr hj;rw [hx] at h1;have e1:=h.cells (g:=g) rfl _ _ h1;rw [← e1,zdt,Nat.add_assoc]
theorem zK.app (hk:∀x,(enc x).length=k) (BX:0 < k) (BA:∀x,∀u ∈ enc x,u.oneCell'=true) {P:Program} {t e:TypeId} {i0:TypeInfo} {z:Value} {bytes:Nat} (ht:P.underlying t=some (.slice e)) (hi:P.info? e=some i0) (AG:i0.zero=some z) (Ai:i0.size=k) (Ax:i0.bytes=bytes) (Gk:z.cells.size=k)
 {w:World} {B:Nat} {v:Value} {l:List α} (h:zK enc k e w B v l) {b o m:Nat} (c:Nat) {l2:List α} (hs:zM enc k w (some ⟨b,o,none⟩) m l2) (hl:l.length+m≤1000000000) (FP:(l.length+m) * bytes≤140737488355328) (hB:B≤w.heap.size):
 ∃v' w',(Builtin.append_ #[t,t] t #[v, .slice (some ⟨b,o,none⟩) m c]).run P w= .ok v' w'∧zK enc k e w' B v' (l++l2)∧w.grownBy w' v.ownBlock:=by
 obtain ⟨v',w',hr,Af,hg,_⟩:=run_append_own (P:=P) w B t t e i0 z k bytes ht hi AG Ai Ax Gk BX v l.length (zB enc l) h ⟨b,o,none⟩ m c (zB enc l2) (by rw [zU enc k hk,hs.1]) (fun j u hu=> by
  have FT:j < l2.length * k:=by rw [← zU enc k hk];exact (zi hu).1
  have hq:j / k < l2.length:=Nat.div_lt_of_lt_mul (by rw [Nat.mul_comm];exact FT)
  have hm:j % k < k:=Nat.mod_lt _ BX;have hd:j=j / k * k+j % k:=by rw [Nat.mul_comm];exact (Nat.div_add_mod j k).symm
  obtain ⟨b',o',he,h1⟩:=hs.2 (j / k) l2[j / k] (ze hq);simp only [Option.some.injEq,Addr.mk.injEq,and_true] at he;obtain ⟨rfl,rfl⟩:=he;have h2:=zfa enc k hk l2 (j / k) (j % k) _ (ze hq) hm;rw [← hd,hu] at h2;have h3:=h1 (j % k) u h2.symm;rw [zdt];rw [Nat.add_assoc,← hd] at h3;exact h3) (fun u hu=> by
   obtain ⟨x,-,hx⟩:=List.mem_flatMap.1 hu;exact BA x u hx) (by unfold maxLen;omega) FP hB
 refine ⟨v',w',hr, ?_,hg⟩;unfold zK;rw [zaj,List.length_append,hs.1];exact Af
end
end
section
open Go.RowKit
section
variable {α:Type} (enc:α→List Value) (k:Nat)
structure zbS (e:TypeId) (w:World) (g cap:Nat) (l:List α):Prop where
 ex:∃cur,w.heap[g]? =some (.cells cur e (0,0))∧cur.size=cap * k∧cur.toList.take (l.length * k)=zB enc l
 le:l.length≤cap
 cm:cap≤maxLen
end
structure zcN (g:Nat) (w w':World):Prop where
 os:w'.os=w.os
 tape:w'.tape=w.tape
 output:w'.output=w.output
 size:w'.heap.size=w.heap.size
 block:∀j,j≠g→w'.heap[j]? =w.heap[j]?
theorem zcN.refl (g:Nat) (w:World):zcN g w w:=⟨rfl,rfl,rfl,rfl,fun _ _=> rfl⟩
theorem zcN.trans {g:Nat} {w w1 w2:World} (h:zcN g w w1) (h':zcN g w1 w2):zcN g w w2:=⟨h'.os.trans h.os,h'.tape.trans h.tape,h'.output.trans h.output,h'.size.trans h.size,fun j hj=> (h'.block j hj).trans (h.block j hj)⟩
theorem zcN.grown {g:Nat} {w w':World} (h:zcN g w w'):w.grownBy w' (some g):=⟨h.os,h.tape,h.output,by rw [h.size];exact zl,fun j _ Aj=> h.block j (fun e=> Aj (by rw [e]))⟩
theorem zcN.setRow (g:Nat) (w:World) (c:Array Value):zcN g w (w.setRow g c):=⟨rfl,rfl,rfl,by simp,fun j hj=> setRow_other w g j c hj⟩
section
variable {α:Type} {enc:α→List Value} {k:Nat}
theorem zfb (hk:∀x,(enc x).length=k) (l:List α) (i:Nat):(zB enc l).take (i * k)=zB enc (l.take i):=by
 induction l generalizing i with
 | nil=> simp [zB]
 | cons x l ih=>
   cases i with
   | zero=> simp [zB]
   | succ i=>
     rw [List.take_succ_cons,zay,zay,show (i+1) * k=(enc x).length+i * k by rw [hk,Nat.add_mul];omega,List.take_length_add_append,ih]
theorem ziD (hk:∀x,(enc x).length=k) (l:List α) (i:Nat):(zB enc l).drop (i * k)=zB enc (l.drop i):=by
 induction l generalizing i with
 | nil=> simp [zB]
 | cons x l ih=>
   cases i with
   | zero=> simp [zB]
   | succ i=>
     rw [List.drop_succ_cons,zay,show (i+1) * k=(enc x).length+i * k by rw [hk,Nat.add_mul];omega,List.drop_length_add_append,ih]
theorem zbS.own (hk:∀x,(enc x).length=k) {e:TypeId} {w:World} {g cap B:Nat} {l:List α} (h:zbS enc k e w g cap l) (hB:B≤g):zK enc k e w B (.slice (some ⟨g,0,none⟩) l.length cap) l:=by
 obtain ⟨cur,h1,h2,h3⟩:=h.ex;exact ⟨zU enc k hk l, .inr ⟨g,cap,cur,rfl,hB,h1,h.le,h.cm,h2,h3⟩⟩
theorem zK.cases {e:TypeId} {w:World} {B:Nat} {v:Value} {l:List α} (h:zK enc k e w B v l):(v= .slice none 0 0∧l= [])∨∃g cap,v= .slice (some ⟨g,0,none⟩) l.length cap∧B≤g∧g < w.heap.size∧zbS enc k e w g cap l:=by
 rcases h.2 with ⟨rfl,h0⟩ | ⟨g,cap,cur,rfl,Bc,hg,Ge,Ce,Fo,CY⟩
 ·exact .inl ⟨rfl,List.eq_nil_of_length_eq_zero h0⟩
 ·exact .inr ⟨g,cap,rfl,Bc,(zg hg).1,⟨cur,hg,Fo,CY⟩,Ge,Ce⟩
theorem zbS.heap {e:TypeId} {w w':World} {g cap:Nat} {l:List α} (h:zbS enc k e w g cap l) (hh:w'.heap[g]? =w.heap[g]?):zbS enc k e w' g cap l:=by
 obtain ⟨cur,h1,h2,h3⟩:=h.ex;exact ⟨⟨cur,hh.trans h1,h2,h3⟩,h.le,h.cm⟩
theorem zbS.lt {e:TypeId} {w:World} {g cap:Nat} {l:List α} (h:zbS enc k e w g cap l):g < w.heap.size:=by
 obtain ⟨cur,h1,-⟩:=h.ex;exact (zg h1).1
theorem zbS.take (hk:∀x,(enc x).length=k) {e:TypeId} {w:World} {g cap:Nat} {l:List α} (h:zbS enc k e w g cap l) (i:Nat):zbS enc k e w g cap (l.take i):=by
 obtain ⟨cur,h1,h2,h3⟩:=h.ex;refine ⟨⟨cur,h1,h2, ?_⟩,by rw [List.length_take];have:=h.le;omega,h.cm⟩
 rw [← zfb hk,← h3,List.take_take,List.length_take];rcases Nat.le_total i l.length with h' | h'
 ·rw [Nat.min_eq_left h',Nat.min_eq_left (Nat.mul_le_mul_right _ h')]
 ·rw [Nat.min_eq_right h',Nat.min_eq_right (Nat.mul_le_mul_right _ h')]
theorem zbS.row (hk:∀x,(enc x).length=k) {e:TypeId} {w:World} {g cap:Nat} {l:List α} (h:zbS enc k e w g cap l):zM enc k w (some ⟨g,0,none⟩) l.length l:=by
 obtain ⟨a,cap',hv,hr,-,-⟩:=(h.own hk (Nat.le_refl g)).row hk;simp only [Value.slice.injEq] at hv;obtain ⟨rfl,-,-⟩:=hv;exact hr
theorem zM.cells (hk:∀x,(enc x).length=k) (BX:0 < k) {w:World} {b o m:Nat} {l2:List α} (hs:zM enc k w (some ⟨b,o,none⟩) m l2):∀j u,(zB enc l2)[j]? =some u→w.cell? ((⟨b,o,none⟩:Addr).add j)=some u:=fun j u hu=> by
 have FT:j < l2.length * k:=by rw [← zU enc k hk];exact (zi hu).1
 have hq:j / k < l2.length:=Nat.div_lt_of_lt_mul (by rw [Nat.mul_comm];exact FT)
 have hm:j % k < k:=Nat.mod_lt _ BX;have hd:j=j / k * k+j % k:=by rw [Nat.mul_comm];exact (Nat.div_add_mod j k).symm
 obtain ⟨b',o',he,h1⟩:=hs.2 (j / k) l2[j / k] (ze hq);simp only [Option.some.injEq,Addr.mk.injEq,and_true] at he;obtain ⟨rfl,rfl⟩:=he;have h2:=zfa enc k hk l2 (j / k) (j % k) _ (ze hq) hm;rw [← hd,hu] at h2;have h3:=h1 (j % k) u h2.symm;rw [zdt];rw [Nat.add_assoc,← hd] at h3;exact h3
theorem zbS.over (hk:∀x,(enc x).length=k) {e:TypeId} {w:World} {g cap:Nat} {l:List α} (h:zbS enc k e w g cap l) {cur:Array Value} (hg:w.heap[g]? =some (.cells cur e (0,0))) (i:Nat) (hi:i≤l.length) (l2:List α) (hc:i+l2.length≤cap):
 zbS enc k e (w.setRow g (cur.toList.take (i * k)++zB enc l2++cur.toList.drop (i * k+(zB enc l2).length)).toArray) g cap (l.take i++l2)∧
 (i+l2.length≤l.length→zbS enc k e (w.setRow g (cur.toList.take (i * k)++zB enc l2++cur.toList.drop (i * k+(zB enc l2).length)).toArray) g cap (l.take i++l2++l.drop (i+l2.length))):=by
 obtain ⟨cur',h1,h2,h3⟩:=h.ex;rw [hg] at h1;simp only [Option.some.injEq,Obj.cells.injEq,and_true] at h1;obtain rfl:cur=cur':=h1;have CC:=zU enc k hk l2;have BO:=h.le;have e1:cur.toList.take (i * k)=zB enc (l.take i):=by
  rw [← zfb hk,← h3,List.take_take,Nat.min_eq_left (Nat.mul_le_mul_right _ hi)]
 have Ci:(l.take i).length=i:=by rw [List.length_take];omega
 have QP:i * k+l2.length * k≤cap * k:=by rw [← Nat.add_mul];exact Nat.mul_le_mul_right _ hc
 have AR:(cur.toList.take (i * k)++zB enc l2++cur.toList.drop (i * k+(zB enc l2).length)).toArray.size=cap * k:=by
  simp only [List.size_toArray,List.length_append,List.length_take,List.length_drop,Array.length_toList,CC,h2]
  omega
 refine ⟨⟨⟨_,setRow_heap w g cur _ e _ hg,AR, ?_⟩,by rw [List.length_append,Ci];exact hc,h.cm⟩,fun hl=> ⟨⟨_,setRow_heap w g cur _ e _ hg,AR, ?_⟩, ?_,h.cm⟩⟩
 ·rw [zaj,e1,show (l.take i++l2).length * k=(zB enc (l.take i)++zB enc l2).length by rw [List.length_append,List.length_append,zU enc k hk,CC,Nat.add_mul]]
  exact List.take_left
 ·have e2:(cur.toList.drop (i * k+(zB enc l2).length)).take (l.length * k - (i * k+(zB enc l2).length))=zB enc (l.drop (i+l2.length)):=by
   rw [← ziD hk,← h3,List.drop_take,CC,Nat.add_mul]
  rw [zaj,zaj,e1,← e2,show (l.take i++l2++l.drop (i+l2.length)).length * k=(zB enc (l.take i)++zB enc l2).length+(l.length * k - (i * k+(zB enc l2).length)) by
   rw [List.length_append,List.length_append,List.length_append,List.length_drop,zU enc k hk,CC,Ci,← Nat.add_mul,← Nat.sub_mul,← Nat.add_mul]]
  exact List.take_length_add_append _
 ·rw [List.length_append,List.length_append,List.length_drop,Ci]
  omega
theorem zaX (hk:∀x,(enc x).length=k) (BA:∀x,∀u ∈ enc x,u.oneCell'=true) {P:Program} {dT sT e:TypeId} {i0:TypeInfo} (hu:P.underlying dT=some (.slice e)) (AD:P.info? e=some i0) (Ai:i0.size=k)
 {w:World} {g cap:Nat} {l:List α} (h:zbS enc k e w g cap l) (i:Nat) (hi:i≤l.length) (l2:List α) (a:Addr) (Dq:∀j u,(zB enc l2)[j]? =some u→w.cell? (a.add j)=some u) (hc:i+l2.length≤cap) (sLen dLen:Nat) (hn:l2.length=Nat.min sLen dLen):
 ∃ w',(∀ty dCap sCap,(Builtin.copy_ #[dT,sT] ty #[.slice (some ⟨g,i * k,none⟩) dLen dCap, .slice (some a) sLen sCap]).run P w= .ok (goInt l2.length) w')∧zbS enc k e w' g cap (l.take i++l2)∧
   (i+l2.length≤l.length→zbS enc k e w' g cap (l.take i++l2++l.drop (i+l2.length)))∧zcN g w w':=by
 obtain ⟨cur,h1,h2,h3⟩:=h.ex;have CC:=zU enc k hk l2;have QP:i * k+l2.length * k≤cap * k:=by rw [← Nat.add_mul];exact Nat.mul_le_mul_right _ hc
 have II:=h.over hk h1 i hi l2 hc;refine ⟨_,fun ty dCap sCap=> ?_,II.1,II.2,zcN.setRow _ _ _⟩;have hf:=run_firstCells_some (P:=P) w i0.size l2.length a sLen sCap (zB enc l2) (by rw [CC,Ai]) Dq
 have AO:=run_storeCells_at P g (i * k) e (zB enc l2) 0 cur w h1 (by rw [CC,h2];omega) (fun u hu=> by
  obtain ⟨x,-,hx⟩:=List.mem_flatMap.1 hu;exact BA x u hx)
 simp only [Nat.add_zero] at AO;simp [Builtin.copy_,run_underlying hu,Builtin.lenOf,sizeOf,typeInfo,AD,← hn,hf,AO]
theorem zbn (hk:∀x,(enc x).length=k) (BA:∀x,∀u ∈ enc x,u.oneCell'=true) {P:Program} {t e:TypeId} {i0:TypeInfo} (hu:P.underlying t=some (.slice e)) (AD:P.info? e=some i0) (Ai:i0.size=k)
 {w:World} {g cap:Nat} {l:List α} (h:zbS enc k e w g cap l) (i:Nat) (hi:i≤l.length) (l2:List α) (a:Addr) (Dq:∀j u,(zB enc l2)[j]? =some u→w.cell? (a.add j)=some u) (hc:i+l2.length≤cap):
 ∃w',(∀ty c,(Builtin.append_ #[t,t] ty #[.slice (some ⟨g,0,none⟩) i cap, .slice (some a) l2.length c]).run P w= .ok (.slice (some ⟨g,0,none⟩) (i+l2.length) cap) w')∧zbS enc k e w' g cap (l.take i++l2)∧zcN g w w':=by
 obtain ⟨cur,h1,h2,h3⟩:=h.ex;have CC:=zU enc k hk l2;have QP:i * k+l2.length * k≤cap * k:=by rw [← Nat.add_mul];exact Nat.mul_le_mul_right _ hc
 refine ⟨_,fun ty c=> ?_,(h.over hk h1 i hi l2 hc).1,zcN.setRow _ _ _⟩;have:=run_append_room (P:=P) w t ty e i0 hu AD g i cap cur h1 a l2.length c (zB enc l2) (by rw [CC,Ai]) Dq (fun u hu=> by
  obtain ⟨x,-,hx⟩:=List.mem_flatMap.1 hu;exact BA x u hx) hc (by rw [CC,Ai,h2];exact QP)
 rw [Ai] at this;exact this
theorem zbe (BX:0 < k) {P:Program} {t e:TypeId} {z:Value} (hu:P.underlying t=some (.slice e)) (hv:∀w,(zeroValue e).run P w= .ok z w) (Gk:z.cells.size=k) (Ai:∀u ∈ z.cells,u.oneCell'=true)
 {w:World} {g cap:Nat} {l:List α} (h:zbS enc k e w g cap l) (i n:Nat) (hi:l.length≤i) (hc:i+n≤cap) (o:Nat) (ho:n=0∨o=i * k):
 ∃w',(∀ty c,(Builtin.clear_ #[t] ty #[.slice (some ⟨g,o,none⟩) n c]).run P w= .ok (.tuple #[]) w')∧zbS enc k e w' g cap l∧zcN g w w':=by
 cases n with
 | zero=> exact ⟨w,fun ty c=> by simp [Builtin.clear_,run_underlying hu],h,zcN.refl _ _⟩
 | succ n=>
   obtain rfl:o=i * k:=by omega
   obtain ⟨cur,h1,h2,h3⟩:=h.ex;have F5:(Builtin.zeroCells z.cells (n+1)).toList.length=(n+1) * k:=by rw [Array.length_toList,size_zeroCells,Gk]
   have QP:i * k+(n+1) * k≤cap * k:=by rw [← Nat.add_mul];exact Nat.mul_le_mul_right _ hc
   have KH:l.length * k≤i * k:=Nat.mul_le_mul_right _ hi;have AO:=run_storeCells_at P g (i * k) e (Builtin.zeroCells z.cells (n+1)).toList 0 cur w h1 (by rw [F5,h2];omega) (fun u hu=> by
    rw [Array.mem_toList_iff] at hu;unfold Builtin.zeroCells at hu;obtain ⟨j,-,rfl⟩:=Array.mem_map.1 hu;have hlt:j % z.cells.size < z.cells.size:=Nat.mod_lt _ (by omega)
    rw [getElem!_pos z.cells _ hlt];exact Ai _ (Array.getElem_mem _))
   simp only [Nat.add_zero] at AO;generalize Ob:(Builtin.zeroCells z.cells (n+1)).toList=zz at *;refine ⟨w.setRow g (cur.toList.take (i * k)++zz++cur.toList.drop (i * k+zz.length)).toArray,fun ty c=> by simp [Builtin.clear_,run_underlying hu,hv,Ob,AO],⟨⟨_,setRow_heap w g cur _ e _ h1, ?_, ?_⟩,h.le,h.cm⟩,zcN.setRow _ _ _⟩
   ·rw [List.size_toArray,List.length_append,List.length_append,List.length_take,List.length_drop,Array.length_toList,F5,h2]
    omega
   ·rw [← h3,List.append_assoc,List.take_append_of_le_length (by rw [List.length_take,show cur.toList.length=cap * k from h2];omega),List.take_take,Nat.min_eq_left KH]
theorem zeD (hk:∀x,(enc x).length=k) (BX:0 < k) {P:Program} {t tn e:TypeId} {i0:TypeInfo} {z:Value} {bytes:Nat} {kq kn:IntKind} (hu:P.underlying t=some (.slice e)) (Qb:P.underlying tn=some (.int kn)) (AD:P.info? e=some i0) (hz:i0.zero=some z) (Ai:i0.size=k) (Ax:i0.bytes=bytes) (Gk:z.cells.size=k)
 {w:World} {g cap:Nat} {l:List α} (h:zbS enc k e w g cap l) (i:Nat) (hi:i≤l.length) (m:Nat) (hm:0 < m) (hc:cap < i+m) (hs:i+m≤1000000) (FP:bytes≤1000):
 ∃cap' w',(∀ty,(Builtin.append_ #[t,tn] ty #[.slice (some ⟨g,0,none⟩) i cap, .int kq m]).run P w= .ok (.slice (some ⟨w.heap.size,0,none⟩) (i+m) cap') w')∧zbS enc k e w' w.heap.size cap' (l.take i)∧i+m≤cap'∧Below w.heap.size w w'∧w'.heap.size=w.heap.size+1:=by
 have Fx:=h.take hk i;have Ci:(l.take i).length=i:=by rw [List.length_take];omega
 have Ah:=Fx.row hk;have hcells:=zM.cells hk BX Ah;have JJ:(i+m) * bytes≤1000000 * 1000:=Nat.mul_le_mul hs FP;have au:m * bytes≤1000000 * 1000:=Nat.mul_le_mul (by omega) FP
 have IG:(Builtin.firstCells i0.size i (.slice (some ⟨g,0,none⟩) i cap)).run P w.drew= .ok (zB enc (l.take i)).toArray w.drew:=by
  rw [Ai];exact run_firstCells_some (P:=P) w.drew k i ⟨g,0,none⟩ i cap _ (by rw [zU enc k hk,Ci]) hcells
 have JH:=grownCap_ge w (i+m) cap e;have Pi:grownCap w (i+m) cap e≤maxLen:=grownCap_le_maxLen w (i+m) cap e (by unfold maxLen;omega)
 refine ⟨_,_,fun ty=> Lib.run_append_grow_zeros (P:=P) w t tn ty e i0 z kq kn hu Qb AD hz (some ⟨g,0,none⟩) i cap (zB enc (l.take i)) IG m hm (by omega) hc (by omega) (by rw [Ax];omega) (by rw [Ax];exact growslice_fits (by omega) (by omega)),⟨⟨_,heap_alloc_new w.drew _, ?_, ?_⟩,by omega,Pi⟩,JH,⟨rfl,rfl,rfl,by simp,fun j hj=> Below.heap_alloc w.drew _ _ hj⟩,by simp⟩
 ·simp only [Array.size_append,size_zeroCells,List.size_toArray,zU enc k hk,Ci,Gk,← Nat.add_mul]
  congr 1
  omega
 ·simp only [Array.toList_append,List.append_assoc];rw [show (l.take i).length * k=(zB enc (l.take i)).length by rw [zU enc k hk]]
  exact List.take_left
end
theorem zA {P : Program} {w : World} {ops : Array Oper} {o : Oper} {a : Act} {K : Act → World → Prop} {Q : Exit → Act → World → Prop} {E : Prop} (hw : Region.wanted o (yielded ops a.tmps) = true) (f : FuncId) {fn : Func} {c : Code} (hf : P.funcs[f]? = some fn) (TB : (fn.name == "runtime.NumGoroutine") = false) (hb : fn.body = some c) (xs : Array Operand) (ts : Array TypeId)
 (ho:o.op= .call {callee:= .value (.func f),args:=xs,argTypes:=ts}) (args:Array Value) (Sb:xs.map a.eval=args) {R:Ending→World→Prop} (hc:Calls P f args w R) (h:∀e w',R e w'→∃v,e= .returned v∧K (a.put o.dst v) w'):if Region.wanted o (yielded ops a.tmps)=true then Oper.wp P o a w K Q else E:=by
 rw [if_pos hw];unfold Oper.wp;have Be:(execOp a.eval o).run P w= .ok (.enter f args) w:=by
  subst Sb;unfold execOp;simp [ho,resolve,invoke,Act.eval,Deferred.ofValue,callFunc,hf,hb]
  simpa using TB
 rw [Be,Oper.upon_enter];exact hc.mono fun e w' hR=> by obtain ⟨v,rfl,hk⟩:=h e w' hR;exact hk
end
end Go.Proofs.YtfldlfladcfggaaGreat
