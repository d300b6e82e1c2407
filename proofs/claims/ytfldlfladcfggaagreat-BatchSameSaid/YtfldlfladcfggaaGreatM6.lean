/- Lemmas of the walks, merged and pressed by press.py. Conditions: those of each theorem. -/
import Derived.Test.YtfldlfladcfggaaGreatM5
set_option maxRecDepth 100000
set_option maxHeartbeats 64000000
set_option linter.all false
namespace Go.Proofs.YtfldlfladcfggaaGreat
section
open Go.RowKit
def PO.blocks (o:PO):List Int:=if o.k=4 then [o.b] else (List.range o.n.toNat).map fun i:Nat=> o.b+(i:Int)
def PO.idle (o:PO) (t:List PO):Bool:=o.plain56 && o.blocks.all fun x=> zrl o.v x t
def z6:List PO→List PO
 | []=> []
 | o::t=> if o.idle t then z6 t else o::z6 t
theorem zf3 {o:PO} (h:o.plain56=true):(o.k=4∨(o.k=5∧1≤o.n∧o.n≤32))∧1≤o.v∧o.v≤65535∧0≤o.b∧o.b≤31:=by
 unfold PO.plain56 zrb at h;simp only [Bool.and_eq_true,Bool.or_eq_true,beq_iff_eq] at h;obtain ⟨h1,h2⟩:=h;unfold zeC at h2;rcases h1 with h1 | h1 <;> rw [h1] at h2 <;> simp [zh1,zpW,znF,zfv,zfu,zj7] at h2
 ·exact ⟨.inl h1,by omega,by omega,by omega,by omega⟩
 ·exact ⟨.inr ⟨h1,by omega,by omega⟩,by omega,by omega,by omega,by omega⟩
theorem zq8 {o:PO} (h:o.plain56=true) (x:Int):x ∈ o.blocks↔o.b≤x∧x < o.b+if o.k=5 then o.n else 1:=by
 have hb:=zf3 h;unfold PO.blocks
 by_cases h4:o.k=4
 ·rw [if_pos h4,if_neg (by omega)]
  simp;omega
 ·rw [if_neg h4,if_pos (by omega)]
  simp only [List.mem_map,List.mem_range]
  constructor
  ·rintro ⟨i,hi,rfl⟩;omega
  ·intro hx;exact ⟨(x - o.b).toNat,by omega,by omega⟩
theorem zrX {o:PO} (h:o.plain56=true) (vol x:Int):o.touch vol x=(o.v==vol && decide (x ∈ o.blocks)):=by
 have hb:=zf3 h;have hw:wrap64 (o.b+if o.k=5 then o.n else 1)=o.b+if o.k=5 then o.n else 1:=by
  unfold wrap64
  split <;> omega
 unfold PO.touch zs2;rw [hw]
 congr 1
 rw [Bool.eq_iff_iff];simp only [Bool.and_eq_true,decide_eq_true_eq];exact (zq8 h x).symm
theorem zrH {o:PO} (h:o.plain56=true) {x:Int} (hx:x ∈ o.blocks):0≤x∧x < 64:=by
 have hb:=zf3 h;have:=(zq8 h x).1 hx
 split at this <;> omega
theorem zrs {o:PO} (h:o.plain56=true):o.blocks.length≤32:=by
 have hb:=zf3 h;unfold PO.blocks
 split
 ·simp
 ·simp;omega
theorem zrI (o:PO):o.blocks.Pairwise (· < ·):=by
 unfold PO.blocks
 split
 ·simp
 ·rw [List.pairwise_map];exact List.pairwise_lt_range.imp fun h=> by omega
theorem zrh:∀l:List PO,(z6 l).length≤l.length
 | []=> by simp [z6]
 | o::t=> by
   have:=zrh t;unfold z6
   split <;> simp <;> omega
def PO.spots (o:PO):List (Int × Int):=o.blocks.map fun x=> (o.v,x)
def sqS:List PO→List (Int × Int)
 | []=> []
 | o::t=> if o.plain56 then o.spots.reverse++sqS t else []
theorem zrW {o:PO} (v x:Int):(v,x) ∈ o.spots↔v=o.v∧x ∈ o.blocks:=by
 unfold PO.spots;rw [List.mem_map]
 constructor
 ·rintro ⟨y,hy,e⟩
  cases e
  exact ⟨rfl,hy⟩
 ·rintro ⟨rfl,hx⟩;exact ⟨x,hx,rfl⟩
theorem zsF:∀(l:List PO) (v x:Int),(v,x) ∈ sqS l↔zrl v x l=true
 | [],v,x=> by simp [sqS,zrl]
 | o ::t,v,x=> by
   have ih:=zsF t v x;unfold sqS zrl
   cases hp:o.plain56 with
   | false=> simp
   | true=>
     rw [if_pos rfl,List.mem_append,List.mem_reverse,zrW,ih,zrX hp,Bool.true_and,Bool.or_eq_true,Bool.and_eq_true,beq_iff_eq,decide_eq_true_eq]
     constructor
     ·rintro (⟨rfl,h⟩ | h)
      ·exact .inl ⟨rfl,h⟩
      ·exact .inr h
     ·rintro (⟨rfl,h⟩ | h)
      ·exact .inl ⟨rfl,h⟩
      ·exact .inr h
def InS (s:Int × Int):Prop:=(0≤s.1∧s.1≤65535)∧0≤s.2∧s.2≤65535
theorem zsQ {o:PO} (h:o.plain56=true):∀s ∈ o.spots,InS s:=by
 rintro ⟨v,x⟩ hs;obtain ⟨rfl,hx⟩:=(zrW v x).1 hs;have h1:=zf3 h;have h2:=zrH h hx;unfold InS;simp only
 omega
def zsG (o:PO) (S:List (Int × Int)) (i:Nat):Bool:=(o.spots.take i).all fun s=> decide (s ∈ S)
theorem zsg (o:PO) (t:List PO) (h:o.plain56=true):o.idle t=zsG o (sqS t) o.spots.length:=by
 unfold PO.idle zsG;rw [h,Bool.true_and,List.take_length,PO.spots,List.all_map]
 congr 1
 funext x
 rw [Bool.eq_iff_iff,Function.comp_apply,decide_eq_true_eq];exact (zsF t o.v x).symm
theorem zr4 (o:PO) (S:List (Int × Int)) (i:Nat) (s:Int × Int) (h:o.spots[i]? =some s):s ∈ (o.spots.take i).reverse++S↔s ∈ S:=by
 rw [List.mem_append,List.mem_reverse]
 constructor
 ·rintro (h1 | h1)
  ·exfalso;have GK:o.spots.Pairwise fun a b=> a.2 < b.2:=by unfold PO.spots;rw [List.pairwise_map];exact zrI o
   obtain ⟨j,hj,e⟩:=List.mem_iff_getElem.1 h1;rw [List.length_take] at hj;rw [List.getElem_take] at e;have hi:=(zi h).1;have:=List.pairwise_iff_getElem.1 GK j i (by omega) hi (by omega)
   rw [e,(zi h).2] at this
   omega
  ·exact h1
 ·exact .inr
theorem zr0 (o:PO) (S:List (Int × Int)) (i:Nat) (s:Int × Int) (h:o.spots[i]? =some s):zsG o S (i+1)=(zsG o S i && decide (s ∈ S)):=by
 unfold zsG;rw [List.take_add_one,h,Option.toList_some,List.all_append];simp
theorem zsL (o:PO) (S:List (Int × Int)) (i:Nat) (s:Int × Int) (h:o.spots[i]? =some s):(o.spots.take (i+1)).reverse++S=s::((o.spots.take i).reverse++S):=by
 rw [List.take_add_one,h,Option.toList_some,List.reverse_append]
 rfl
theorem zra:∀(l:List PO),∀o ∈ z6 l,o ∈ l
 | [],o,h=> by simp [z6] at h
 | a::t,o,h=> by
   have e:z6 (a::t)=if a.idle t then z6 t else a::z6 t:=rfl;rw [e] at h
   split at h
   ·exact List.mem_cons_of_mem _ (zra t o h)
   ·rcases List.mem_cons.1 h with rfl | h
    ·exact List.mem_cons_self
    ·exact List.mem_cons_of_mem _ (zra t o h)
end
end Go.Proofs.YtfldlfladcfggaaGreat
