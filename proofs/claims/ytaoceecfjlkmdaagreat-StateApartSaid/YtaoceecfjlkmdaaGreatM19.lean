/- Lemmas of the walks, merged and pressed by press.py. Conditions: those of each theorem. -/
import Derived.Test.YtaoceecfjlkmdaaGreatM18
set_option maxRecDepth 100000
set_option maxHeartbeats 64000000
set_option linter.all false
namespace Go.Proofs.YtaoceecfjlkmdaaGreat
section
structure Pu where
 b:Nat
 a:Nat
 d:Option (List UInt8)
structure Chg where
 c:Ct
 id:Nat
 vol:Nat
 puts:List Pu
 drop:Nat
 prune:Bool
 seq:Nat
def zdy (d:List UInt8):List UInt8:=d.take 64++List.replicate (64 - d.length) 0
theorem zaK (d:List UInt8):(zdy d).length=64:=by
 unfold zdy;rw [List.length_append,List.length_take,List.length_replicate]
 omega
def zaL (l:List En) (v s a n:Nat):List Pu:=((List.range' a n).filter fun b=> decide (atL l v b s≠0)).map fun b=> ⟨b,0,none⟩
def zcG (l:List En) (v s n:Nat):List Pu:=((List.range n).filter fun b=> decide (atL l v b s≠0)).map fun b=> ⟨b,atL l v b s,none⟩
def zeN (l:List En) (v s size b:Nat):Nat:=if b < size then atL l v b s else 0
def zbw (l:List En) (v s now size many:Nat):List Pu:=((List.range many).filter fun b=> decide (zeN l v s size b≠atL l v b now)).map fun b=> ⟨b,zeN l v s size b,none⟩
def Chg.nil (c:Ct) (s:Nat):Chg:=⟨c,0,0, [],0,false,s⟩
def zb1 (c:Ct) (s:Nat) (o:PO):Nat × Chg:=
 let r:=c.create o.n.toNat s
 (r.1,{Chg.nil c s with c:=r.2.1,id:=r.2.2})
def zbh (c:Ct) (s:Nat) (o:PO):Nat × Chg:=match c.find o.v with
 | none=> (40,Chg.nil c s)
 | some _=> (0,{Chg.nil c s with c:=(c.delete o.v).forget o.v,drop:=o.v.toNat})
def za6 (c:Ct) (l:List En) (s:Nat) (o:PO):Nat × Chg:=match c.find o.v with
 | none=> (40,Chg.nil c s)
 | some x=>
   let r:=zbf x.sizes s o.n.toNat
   if r.1≠0 then (r.1,Chg.nil c s) else (0,{Chg.nil c s with c:=c.resize o.v r.2,vol:=o.v.toNat,puts:=zaL l o.v.toNat (s - 1) o.n.toNat (zas x.sizes - o.n.toNat)})
def zaz (c:Ct) (l:List En) (s:Nat) (o:PO):Nat × Chg:=match c.find o.v with
 | none=> (40,Chg.nil c s)
 | some x=>
   if o.k=5 then
    if zas x.sizes < o.b.toNat+o.n.toNat then (41,Chg.nil c s) else (0,{Chg.nil c s with vol:=o.v.toNat,puts:=zaL l o.v.toNat (s - 1) o.b.toNat o.n.toNat})
   else if zas x.sizes < o.b.toNat+1 then (41,Chg.nil c s) else (0,{Chg.nil c s with vol:=o.v.toNat,puts:= [⟨o.b.toNat,0,some (zdy o.d)⟩]})
def zav (c:Ct) (o:PO):Nat × Nat:=
 if o.k=11 then match c.find o.v with
    | none=> (40,0)
    | some _=> match zjz c.times o.pt.toNat with
      | none=> (44,0)
      | some n=> (0,n)
 else if o.k=12 then match c.book o.i with
    | none=> (43,0)
    | some b=> if o.v ∈ b.ms then (0,b.seq) else (40,0)
 else (0,o.pt.toNat)
def zcO (c:Ct) (l:List En) (s:Nat) (o:PO):Nat × Chg:=
 let p:=zav c o
 if p.1≠0 then (p.1,Chg.nil c s) else
 let z:=c.sizeAt o.v p.2 (s - 1)
 if z.1≠0 then (z.1,Chg.nil c s) else
 let r:=c.create z.2 s
 (r.1,{Chg.nil c s with c:=r.2.1,id:=r.2.2,vol:=r.2.2,puts:=zcG l o.v.toNat p.2 z.2})
def zcW (c:Ct) (l:List En) (s:Nat) (o:PO):Nat × Chg:=
 let z:=c.sizeAt o.v o.pt.toNat (s - 1)
 if z.1≠0 then (z.1,Chg.nil c s) else match c.find o.v with
    | none=> (40,Chg.nil c s)
    | some x=>
      let r:=zbf x.sizes s z.2
      (r.1,{Chg.nil c s with c:=c.resize o.v r.2,vol:=o.v.toNat,puts:=zbw l o.v.toNat o.pt.toNat (s - 1) z.2 (max z.2 (zas x.sizes))})
def zaU (c:Ct) (s:Nat) (r:Nat × Ct × Nat):Nat × Chg:=(r.1,{Chg.nil c s with c:=r.2.1,id:=r.2.2})
def zV (window every:Nat) (c:Ct) (l:List En) (s clock:Nat) (o:PO):Nat × Chg:=
 if o.k=1 then zb1 c s o
 else if o.k=2 then zbh c s o
 else if o.k=3 then za6 c l s o
 else if o.k=4∨o.k=5 then zaz c l s o
 else if o.k=6 then zaU c s (c.add o.m)
 else if o.k=7 then (match c.group o.i with
    | none=> (42,Chg.nil c s)
    | some _=> (0,{Chg.nil c s with c:=c.ungroup o.i}))
 else if o.k=8 then zaU c s (c.mark o.i s)
 else if o.k=9 then (match c.book o.i with
    | none=> (43,Chg.nil c s)
    | some _=> (0,{Chg.nil c s with c:=c.unmark o.i}))
 else if o.k=13 then zcW c l s o
 else if o.k=14 then (0,{Chg.nil c s with c:=c.retain clock window every,prune:=true})
 else zcO c l s o
def zc9 (window every:Nat) (c:Ct) (l:List En) (seq clock:Nat) (o:PO):Nat × Chg:=
 if ¬(1≤o.k∧o.k≤14)∨o.right=false then (10,Chg.nil c seq)
 else if seq=18446744073709551615 then (50,Chg.nil c seq)
 else
    let r:=zV window every c l (seq+1) clock o
    if r.1≠0 then r else
    let t:=za7 r.2.c.times (seq+1) clock
    if t.1≠0 then (t.1,r.2) else (0,{r.2 with c:={r.2.c with times:=t.2}})
def zaP (l:List En) (v s x:Nat) (ps:List Pu):List En:=ps.foldl (fun l p=> zaR l (za9 v p.b s,match p.d with
 | none=> p.a
 | some _=> x)) l
def zaO (c:Ct) (vs:List Vl) (l:List En):List En:=vs.foldl (fun l v=> zao l (zcQ l v.id (c.ofL v.id) c.fl)) l
def zch (g:Chg) (x:Nat) (l:List En):List En:=
 let l1:=zaP l g.vol g.seq x g.puts
 let l2:=if g.drop=0 then l1 else zao l1 (zdE l1 g.drop)
 if g.prune then zaO g.c g.c.vols l2 else l2
end
section
theorem zfE (p:En→Bool):∀{l:List En} {e:En},(∀x:En,x.1=e.1→p x=false)→(zaR l e).filter p=l.filter p
 | [],e,h=> by simp [zaR,h e rfl]
 | x ::l,e,h=> by
   unfold zaR
   split
   ·rw [List.filter_cons,List.filter_cons,zfE p h]
   ·split
    ·rename_i _ h1
     rw [List.filter_cons,List.filter_cons,h e rfl,h x h1];simp
    ·rw [List.filter_cons,h e rfl];simp
theorem zpL {l:List En} (hr:zac l) {k a v b s:Nat} (hb:b < 4294967296) (hs:s < 18446744073709551616) (h:¬(zj k=v∧zo k=b∧zp k≤s)):atL (zaR l (k,a)) v b s=atL l v b s:=by
 rw [zde (zc8 hr) v b s hb hs,zde hr v b s hb hs,zfE (pAt v b s) (fun x hx=> by
  unfold pAt;rw [show x.1=k from hx];exact decide_eq_false h)]
theorem zhw {l:List En} (hr:zac l) {f:En→Bool} {v b s:Nat} (hb:b < 4294967296) (hs:s < 18446744073709551616) (h:∀x,zj x.1=v→f x=true):atL (l.filter f) v b s=atL l v b s:=by
 rw [zde (hr.filter _) v b s hb hs,zde hr v b s hb hs,List.filter_filter];have:(l.filter fun a=> pAt v b s a && f a)=l.filter (pAt v b s):=List.filter_congr fun x _=> by
  cases hp:pAt v b s x with
  | false=> rfl
  | true=>
    unfold pAt at hp;rw [h x (of_decide_eq_true hp).1]
    rfl
 rw [this]
theorem zl1 {v s x:Nat} (Fc:s < 18446744073709551616):∀(ps:List Pu) {l:List En} (_:zac l) {u b t:Nat} (_:b < 4294967296) (_:t < s) (_:∀p ∈ ps,p.b < 4294967296),atL (zaP l v s x ps) u b t=atL l u b t∧zac (zaP l v s x ps)
 | [],_,hr,_,_,_,_,_,_=> ⟨rfl,hr⟩
 | p ::ps,l,hr,u,b,t,hb,ht,hp=> by
   obtain ⟨h1,h2⟩:=zl1 Fc ps (zc8 (e:=(za9 v p.b s,match p.d with
     | none=> p.a
     | some _=> x)) hr) (u:=u) hb ht (fun q hq=> hp q (List.mem_cons_of_mem _ hq))
   refine ⟨h1.trans (zpL hr hb (by omega) ?_),h2⟩
   rw [zdm Fc]
   omega
theorem zmu {l:List En} {v u:Nat} {ps:List Nat} {fl:Nat} (h:u≠v) (x:En) (hx:zj x.1=u):(!zkY l v ps fl x)=true:=by
 unfold zkY;rw [show decide (zj x.1=v)=false from decide_eq_false (by omega)]
 rfl
theorem zjI {c:Ct} {u b s:Nat} (hb:b < 4294967296) (hs:s < 18446744073709551616) (h:c.fl≤s∨s ∈ c.ofL (u:Int)):∀(vs:List Vl) {l:List En} (_:zac l),atL (zaO c vs l) u b s=atL l u b s∧zac (zaO c vs l)
 | [],_,hr=> ⟨rfl,hr⟩
 | v::vs,l,hr=> by
   have e1:zao l (zcQ l v.id (c.ofL v.id) c.fl)=l.filter fun x=> !zkY l v.id (c.ofL v.id) c.fl x:=by rw [zmx hr,zcu hr]
   have BK:zac (l.filter fun x=> !zkY l v.id (c.ofL v.id) c.fl x):=hr.filter _;obtain ⟨h1,h2⟩:=zjI hb hs h vs BK;unfold zaO at *;rw [List.foldl_cons,e1];refine ⟨h1.trans ?_,h2⟩
   by_cases qk:u=v.id
   ·subst qk;exact zol hr v.id (c.ofL v.id) c.fl v.id b s hb hs h
   ·exact zhw hr hb hs (zmu qk)
theorem znS {g:Chg} {x:Nat} {l:List En} (hr:zac l) (Fc:g.seq < 18446744073709551616) {u b s:Nat} (hb:b < 4294967296) (hs:s < g.seq) (hp:∀p ∈ g.puts,p.b < 4294967296) (hd:g.drop=0∨u≠g.drop) (Fb:g.prune=true→g.c.fl≤s∨s ∈ g.c.ofL (u:Int)):atL (zch g x l) u b s=atL l u b s:=by
 obtain ⟨h1,h2⟩:=zl1 (v:=g.vol) (x:=x) Fc g.puts hr (u:=u) hb hs hp;unfold zch;have h3:atL (if g.drop=0 then zaP l g.vol g.seq x g.puts else zao (zaP l g.vol g.seq x g.puts) (zdE (zaP l g.vol g.seq x g.puts) g.drop)) u b s=atL l u b s∧zac (if g.drop=0 then zaP l g.vol g.seq x g.puts else zao (zaP l g.vol g.seq x g.puts) (zdE (zaP l g.vol g.seq x g.puts) g.drop)):=by
  split
  ·exact ⟨h1,h2⟩
  ·unfold zdE;rw [zcu h2];exact ⟨(zhw h2 hb (by omega) fun y hy=> by
        have:u≠g.drop:=by omega
        simp [hy,this]).trans h1,h2.filter _⟩
 simp only
 split
 ·rename_i aM
  exact (zjI hb (by omega) (Fb aM) _ h3.2).1.trans h3.1
 ·exact h3.1
end
section
structure SzI (l:List Mk) (seq:Nat):Prop where
 some:l≠ []
 rise:l.Pairwise fun a b=> a.1 < b.1
 fit:∀m ∈ l,m.1≤seq∧1≤m.2∧m.2≤32
 len:l.length≤16
structure VlI (x:Vl) (nv seq:Nat):Prop where
 id:1≤x.id∧x.id≤nv
 born:x.born≤seq
 sizes:SzI x.sizes seq
structure MsI (l:List Int):Prop where
 fit:∀m ∈ l,1≤m∧m≤65535
 len:l.length≤8
structure TmI (l:List Mk) (seq clock:Nat):Prop where
 rise:l.Pairwise fun a b=> a.1 < b.1∧a.2 < b.2
 fit:∀m ∈ l,m.1≤seq∧m.2≤clock
 len:l.length≤64
structure CtI (c:Ct) (seq clock:Nat):Prop where
 nv:c.nv≤65535
 ng:c.ng≤65535
 nb:c.nb≤65535
 fl:c.fl≤seq
 vols:∀x ∈ c.vols,VlI x c.nv seq
 ids:(c.vols.map (·.id)).Pairwise (· < ·)
 vlen:c.vols.length≤8
 groups:∀x ∈ c.groups,x.id≤c.ng∧MsI x.ms
 gids:(c.groups.map (·.id)).Pairwise (· < ·)
 glen:c.groups.length≤4
 books:∀x ∈ c.books,x.id≤c.nb∧x.seq≤seq∧MsI x.ms
 bids:(c.books.map (·.id)).Pairwise (· < ·)
 blen:c.books.length≤8
 kept:∀k ∈ c.kept,k≤seq
 klen:c.kept.length≤32
 times:TmI c.times seq clock
theorem SzI.later {l:List Mk} {s t:Nat} (h:SzI l s) (AO:s≤t):SzI l t:=⟨h.some,h.rise,fun m hm=> by have:=h.fit m hm;omega,h.len⟩
theorem VlI.later {x:Vl} {n m s t:Nat} (h:VlI x n s) (hn:n≤m) (AO:s≤t):VlI x m t:=⟨by have:=h.id;omega,by have:=h.born;omega,h.sizes.later AO⟩
theorem TmI.later {l:List Mk} {s t c d:Nat} (h:TmI l s c) (hs:s≤t) (hc:c≤d):TmI l t d:=⟨h.rise,fun m hm=> by have:=h.fit m hm;omega,h.len⟩
theorem CtI.later {c:Ct} {s t k d:Nat} (h:CtI c s k) (hs:s≤t) (hc:k≤d):CtI c t d:=
 ⟨h.nv,h.ng,h.nb,zs h.fl hs,fun x hx=> (h.vols x hx).later zl hs,h.ids,h.vlen,h.groups,h.gids,h.glen,fun x hx=> by have:=h.books x hx;exact ⟨this.1,by omega,this.2.2⟩,h.bids,h.blen,fun k hk=> zs (h.kept k hk) hs,h.klen,h.times.later hs hc⟩
theorem CtI.nil {s k:Nat} {fl:Nat} (h:fl≤s):CtI ⟨0,0,0,fl, [], [], [], [], []⟩ s k:=by
 refine ⟨by simp,by simp,by simp,h,by simp,List.Pairwise.nil,by simp,by simp,List.Pairwise.nil,by simp,by simp,List.Pairwise.nil,by simp,by simp,by simp,⟨List.Pairwise.nil,fun m hm=> (by cases hm),by simp⟩⟩
theorem zdQ {α:Type} {l:List α} {x:α} (h:l.getLast? =some x):x ∈ l:=List.mem_of_getLast? h
theorem zik {l:List Mk} {s n:Nat} (h:SzI l s) (hn:1≤n∧n≤32) {r:List Mk} (hr:zbf l (s+1) n=(0,r)):SzI r (s+1):=by
 unfold zbf at hr
 split at hr
 ·cases hr
 ·rename_i hl
  split at hr
  ·cases hr;exact h.later (by omega)
  ·split at hr
   ·cases hr
   ·rename_i Ac
    cases hr
    refine ⟨by simp, ?_, ?_,by simp;omega⟩
    ·rw [List.pairwise_append];exact ⟨h.rise,List.pairwise_singleton _ _,fun a ha b hb=> by
         simp at hb;subst hb;have:=(h.fit a ha).1
         show a.1 < s+1
         omega⟩
    ·intro m hm;rcases List.mem_append.1 hm with hm | hm
     ·have:=h.fit m hm;omega
     ·simp at hm;subst hm;simp only;omega
theorem znr {s n:Nat} (hn:1≤n∧n≤32):SzI [(s,n)] s:=⟨by simp,List.pairwise_singleton _ _,fun m hm=> by simp at hm;subst hm;simp only;omega,by simp⟩
theorem zel (ps:List Nat) (fl:Nat):∀l:List Mk,(za4 ps fl l).Sublist l
 | []=> List.Sublist.slnil
 | [m]=> List.Sublist.refl _
 | m::x::l=> by
   unfold za4
   split
   ·exact (zel ps fl (x::l)).cons_cons m
   ·exact (zel ps fl (x::l)).cons m
theorem zfI (ps:List Nat) (fl:Nat):∀l:List Mk,l≠ []→za4 ps fl l≠ []
 | [],h=> absurd rfl h
 | [m],_=> by simp [za4]
 | m::x::l,_=> by
   unfold za4
   split
   ·simp
   ·exact zfI ps fl (x::l) (by simp)
theorem zlI {l:List Mk} {s:Nat} (h:SzI l s) (ps:List Nat) (fl:Nat):SzI (za4 ps fl l) s:=
 have hs:=zel ps fl l
 ⟨zfI ps fl l h.some,h.rise.sublist hs,fun m hm=> h.fit m (hs.subset hm),zs hs.length_le h.len⟩
theorem zlN {l:List Mk} {s k:Nat} (h:TmI l s k) {r:List Mk} (hr:za7 l (s+1) k=(0,r)):TmI r (s+1) k:=by
 unfold za7 at hr
 cases hl:l.getLast? with
 | none=>
   rw [hl] at hr
   cases hr
   exact ⟨List.pairwise_singleton _ _,fun m hm=> by simp at hm;subst hm;simp,by simp⟩
 | some x=>
   rw [hl] at hr;simp only at hr;have hx:=h.fit x (zdQ hl);have YD:l=l.dropLast++ [x]:=by
    have h0:l≠ []:=fun e=> by rw [e] at hl;simp at hl
    rw [List.getLast?_eq_some_getLast h0] at hl;simp only [Option.some.injEq] at hl;rw [← hl,List.dropLast_concat_getLast]
   split at hr
   ·cases hr
   ·rename_i hc
    split at hr
    ·rename_i ht
     cases hr
     have hp:=h.rise;rw [YD,List.pairwise_append] at hp;refine ⟨?_, ?_,by have:=h.len;rw [YD] at this;simpa using this⟩
     ·rw [List.pairwise_append];refine ⟨hp.1,List.pairwise_singleton _ _,fun a ha b hb=> ?_⟩;simp at hb;subst hb;have:=hp.2.2 a ha x (by simp)
      simp only
      omega
     ·intro m hm;rcases List.mem_append.1 hm with hm | hm
      ·have:=h.fit m (List.dropLast_subset _ hm);omega
      ·simp at hm;subst hm;simp
    ·rename_i ht
     split at hr
     ·cases hr
     ·rename_i Ac
      cases hr
      refine ⟨?_, ?_,by simp;omega⟩
      ·rw [List.pairwise_append];refine ⟨h.rise,List.pairwise_singleton _ _,fun a ha b hb=> ?_⟩;simp at hb;subst hb;have bT:a.2≤x.2:=by
        have hp:=h.rise;rw [YD] at ha hp;rw [List.pairwise_append] at hp;rcases List.mem_append.1 ha with ha | ha
        ·have:=hp.2.2 a ha x (by simp);omega
        ·simp at ha;rw [ha];exact zl
       have:=h.fit a ha;simp only
       omega
      ·intro m hm;rcases List.mem_append.1 hm with hm | hm
       ·have:=h.fit m hm;omega
       ·simp at hm;subst hm;simp
theorem CtI.create {c:Ct} {s k n:Nat} (h:CtI c s k) (hn:1≤n∧n≤32) {r:Nat × Ct × Nat} (hr:c.create n (s+1)=r) (h0:r.1=0):CtI r.2.1 (s+1) k∧r.2.2=c.nv+1∧c.nv < 65535∧r.2.1.times=c.times:=by
 unfold Ct.create at hr
 split at hr
 ·subst hr;cases h0
 ·rename_i hc
  subst hr;have hl:=h.later (t:=s+1) (d:=k) (by omega) zl
  refine ⟨⟨by simp only;omega,hl.ng,hl.nb,hl.fl, ?_, ?_,by simp;omega,hl.groups,hl.gids,hl.glen,hl.books,hl.bids,hl.blen,hl.kept,hl.klen,hl.times⟩,rfl,by omega,rfl⟩
  ·intro x hx;rcases List.mem_append.1 hx with hx | hx
   ·exact (hl.vols x hx).later (Nat.le_succ _) zl
   ·simp at hx;subst hx;exact ⟨⟨by simp,by simp⟩,zl,znr hn⟩
  ·simp only [List.map_append,List.map_cons,List.map_nil];rw [List.pairwise_append];refine ⟨hl.ids,List.pairwise_singleton _ _,fun a ha b hb=> ?_⟩;simp at hb;subst hb;obtain ⟨x,hx,rfl⟩:=List.mem_map.1 ha;have:=(hl.vols x hx).id
   omega
theorem CtI.volsSub {c:Ct} {s k:Nat} (h:CtI c s k) {vs:List Vl} (hv:vs.Sublist c.vols):CtI {c with vols:=vs} s k:=
 ⟨h.nv,h.ng,h.nb,h.fl,fun x hx=> h.vols x (hv.subset hx),h.ids.sublist (hv.map _),zs hv.length_le h.vlen,h.groups,h.gids,h.glen,h.books,h.bids,h.blen,h.kept,h.klen,h.times⟩
theorem CtI.delete {c:Ct} {s k:Nat} (h:CtI c s k) (v:Int):CtI (c.delete v) s k:=h.volsSub List.eraseP_sublist
theorem CtI.volsMap {c:Ct} {s k:Nat} (h:CtI c s k) (f:Vl→Vl) (hf:∀x ∈ c.vols,(f x).id=x.id∧(f x).born=x.born∧SzI (f x).sizes s):CtI {c with vols:=c.vols.map f} s k:=by
 refine ⟨h.nv,h.ng,h.nb,h.fl,fun x hx=> ?_, ?_,by simp;exact h.vlen,h.groups,h.gids,h.glen,h.books,h.bids,h.blen,h.kept,h.klen,h.times⟩
 ·obtain ⟨y,hy,rfl⟩:=List.mem_map.1 hx;obtain ⟨h1,h2,h3⟩:=hf y hy;have:=h.vols y hy;exact ⟨by rw [h1];exact this.id,by rw [h2];exact this.born,h3⟩
 ·have:(c.vols.map f).map (·.id)=c.vols.map (·.id):=by
   rw [List.map_map];exact List.map_congr_left fun x hx=> (hf x hx).1
  show ((c.vols.map f).map (·.id)).Pairwise (· < ·)
  rw [this];exact h.ids
theorem CtI.resize {c:Ct} {s k:Nat} (h:CtI c s k) (v:Int) {l:List Mk} (hl:SzI l s):CtI (c.resize v l) s k:=h.volsMap _ fun x hx=> by
 split
 ·exact ⟨rfl,rfl,hl⟩
 ·exact ⟨rfl,rfl,(h.vols x hx).sizes⟩
theorem CtI.gbSub {c:Ct} {s k:Nat} (h:CtI c s k) {gs:List Gp} {bs:List Bk} (hg:(gs.map (·.id)).Sublist (c.groups.map (·.id))) (hb:(bs.map (·.id)).Sublist (c.books.map (·.id))) (Cy:∀x ∈ gs,x.id≤c.ng∧MsI x.ms) (Ae:∀x ∈ bs,x.id≤c.nb∧x.seq≤s∧MsI x.ms):CtI {c with groups:=gs,books:=bs} s k:=
 ⟨h.nv,h.ng,h.nb,h.fl,h.vols,h.ids,h.vlen,Cy,h.gids.sublist hg,by have:=hg.length_le;simp at this;exact zs this h.glen,Ae,h.bids.sublist hb,by have:=hb.length_le;simp at this;exact zs this h.blen,h.kept,h.klen,h.times⟩
theorem CtI.ungroup {c:Ct} {s k:Nat} (h:CtI c s k) (i:Int):CtI (c.ungroup i) s k:=
 h.gbSub (bs:=c.books) (List.eraseP_sublist.map _) (List.Sublist.refl _) (fun x hx=> h.groups x (List.eraseP_sublist.subset hx)) h.books
theorem CtI.unmark {c:Ct} {s k:Nat} (h:CtI c s k) (i:Int):CtI (c.unmark i) s k:=
 h.gbSub (gs:=c.groups) (List.Sublist.refl _) (List.eraseP_sublist.map _) h.groups (fun x hx=> h.books x (List.eraseP_sublist.subset hx))
theorem MsI.filter {l:List Int} (h:MsI l) (p:Int→Bool):MsI (l.filter p):=⟨fun m hm=> h.fit m (List.mem_filter.1 hm).1,zs (List.length_filter_le _ _) h.len⟩
theorem zaN {α:Type} (id:α→Nat) (f:α→Option α) (hf:∀x y,f x=some y→id y=id x):∀l:List α,((l.filterMap f).map id).Sublist (l.map id)
 | []=> List.Sublist.slnil
 | x::l=> by
   rw [List.filterMap_cons]
   cases h:f x with
   | none=> exact (zaN id f hf l).cons _
   | some y=> simp only [List.map_cons];rw [hf x y h];exact (zaN id f hf l).cons_cons _
theorem CtI.forget {c:Ct} {s k:Nat} (h:CtI c s k) (v:Int):CtI (c.forget v) s k:=by
 refine h.gbSub (zaN _ _ (fun x y B8=> ?_) _) (zaN _ _ (fun x y B8=> ?_) _) (fun x hx=> ?_) (fun x hx=> ?_)
 ·simp only at B8
  split at B8
  ·cases B8
  ·cases B8;rfl
 ·simp only at B8
  split at B8
  ·cases B8
  ·cases B8;rfl
 ·obtain ⟨g,hg,he⟩:=List.mem_filterMap.1 hx;simp only at he
  split at he
  ·cases he
  ·cases he
   exact ⟨(h.groups g hg).1,(h.groups g hg).2.filter _⟩
 ·obtain ⟨g,hg,he⟩:=List.mem_filterMap.1 hx;simp only at he
  split at he
  ·cases he
  ·cases he
   exact ⟨(h.books g hg).1,(h.books g hg).2.1,(h.books g hg).2.2.filter _⟩
theorem CtI.add {c:Ct} {s k:Nat} (h:CtI c s k) {ms:List Int} (hm:MsI ms) {r:Nat × Ct × Nat} (hr:c.add ms=r) (h0:r.1=0):CtI r.2.1 s k∧r.2.1.times=c.times:=by
 unfold Ct.add at hr
 split at hr
 ·subst hr;cases h0
 ·split at hr
  ·subst hr;cases h0
  ·subst hr;refine ⟨⟨h.nv,by simp only;omega,h.nb,h.fl,h.vols,h.ids,h.vlen, ?_, ?_,by simp;omega,h.books,h.bids,h.blen,h.kept,h.klen,h.times⟩,rfl⟩
   ·intro x hx;rcases List.mem_append.1 hx with hx | hx
    ·have:=h.groups x hx;exact ⟨by simp only;omega,this.2⟩
    ·simp at hx;subst hx;exact ⟨zl,hm⟩
   ·simp only [List.map_append,List.map_cons,List.map_nil];rw [List.pairwise_append];refine ⟨h.gids,List.pairwise_singleton _ _,fun a ha b hb=> ?_⟩;simp at hb;subst hb;obtain ⟨x,hx,rfl⟩:=List.mem_map.1 ha;have:=(h.groups x hx).1
    omega
theorem CtI.mark {c:Ct} {s k:Nat} (h:CtI c s k) (i:Int) {r:Nat × Ct × Nat} (hr:c.mark i (s+1)=r) (h0:r.1=0):CtI r.2.1 (s+1) k∧r.2.1.times=c.times:=by
 unfold Ct.mark at hr
 cases hg:c.group i with
 | none=> rw [hg] at hr;subst hr;cases h0
 | some g=>
   rw [hg] at hr;simp only at hr
   split at hr
   ·subst hr;cases h0
   ·subst hr;have Vk:g ∈ c.groups:=List.mem_of_find?_eq_some hg;have hl:=h.later (t:=s+1) (d:=k) (by omega) zl
    refine ⟨⟨hl.nv,hl.ng,by simp only;omega,hl.fl,hl.vols,hl.ids,hl.vlen,hl.groups,hl.gids,hl.glen, ?_, ?_,by simp;omega,hl.kept,hl.klen,hl.times⟩,rfl⟩
    ·intro x hx;rcases List.mem_append.1 hx with hx | hx
     ·have:=hl.books x hx;exact ⟨by simp only;omega,this.2⟩
     ·simp at hx;subst hx;exact ⟨zl,zl,(h.groups g Vk).2⟩
    ·simp only [List.map_append,List.map_cons,List.map_nil];rw [List.pairwise_append];refine ⟨hl.bids,List.pairwise_singleton _ _,fun a ha b hb=> ?_⟩;simp at hb;subst hb;obtain ⟨x,hx,rfl⟩:=List.mem_map.1 ha;have:=(h.books x hx).1
     omega
theorem zkn {l:List Mk} {t s:Nat} (h:zjz l t=some s):∃m ∈ l,m.1=s∧m.2≤t:=by
 unfold zjz at h
 cases hl:(l.filter fun m=> decide (m.2≤t)).getLast? with
 | none=> rw [hl] at h;cases h
 | some x=>
   rw [hl] at h;simp at h;obtain ⟨h1,h2⟩:=List.mem_filter.1 (zdQ hl);exact ⟨x,h1,h,of_decide_eq_true h2⟩
theorem Ct.floor_le {c:Ct} {s k:Nat} (h:CtI c s k) (now window:Nat):c.fl≤c.floor now window∧c.floor now window≤s:=by
 have hf:=h.fl;unfold Ct.floor
 split
 ·omega
 ·cases hl:zjz c.times (now - window) with
  | none=> simp only;omega
  | some x=>
    obtain ⟨m,hm,h1,-⟩:=zkn hl;have:=(h.times.fit m hm).1;simp only
    omega
theorem zh3 {every lo:Nat}:∀{f n x:Nat},x ∈ zcZ every lo f n→lo≤x∧x≤n
 | 0,_,_,h=> by simp [zcZ] at h
 | f +1,n,x,h=> by
   unfold zcZ at h
   split at h
   ·cases h
   ·split at h
    ·simp at h;omega
    ·rcases List.mem_cons.1 h with rfl | h
     ·omega
     ·have:=zh3 h;omega
theorem Ct.keep_mem {c:Ct} {fl every x:Nat} (h:x ∈ c.keep fl every):x ∈ c.kept∨(c.fl≤x∧x < fl):=by
 unfold Ct.keep at h;simp only at h;have h:=List.mem_of_mem_drop h;rcases List.mem_append.1 h with h | h
 ·exact .inl h
 ·rw [List.mem_reverse] at h
  split at h
  ·cases h
  ·rename_i hc
   have h1:=zh3 h;have h2:(fl - 1) / every * every≤fl - 1:=Nat.div_mul_le_self _ _;exact .inr ⟨h1.1,by omega⟩
theorem Ct.keep_len (c:Ct) (fl every:Nat):(c.keep fl every).length≤32:=by
 unfold Ct.keep;simp only [List.length_drop]
 omega
theorem CtI.retain {c:Ct} {s k:Nat} (h:CtI c s k) (now window every:Nat):CtI (c.retain now window every) s k:=by
 have hf:=Ct.floor_le h now window;unfold Ct.retain;simp only;have h1:CtI {c with fl:=c.floor now window,kept:=c.keep (c.floor now window) every,times:=zaZ ({c with fl:=c.floor now window,kept:=c.keep (c.floor now window) every}:Ct).allL (c.floor now window) c.times} s k:=
  ⟨h.nv,h.ng,h.nb,hf.2,h.vols,h.ids,h.vlen,h.groups,h.gids,h.glen,h.books,h.bids,h.blen,fun x hx=> by
   rcases Ct.keep_mem hx with h2 | h2
   ·exact h.kept x h2
   ·omega,Ct.keep_len _ _ _,⟨h.times.rise.filter _,fun m hm=> h.times.fit m (List.mem_filter.1 hm).1,zs (List.length_filter_le _ _) h.times.len⟩⟩
 exact h1.volsMap _ fun x hx=> ⟨rfl,rfl,zlI (h.vols x hx).sizes _ _⟩
theorem Ct.sizeAt_fit {c:Ct} {s k:Nat} (h:CtI c s k) {v:Int} {t last n:Nat} (hs:c.sizeAt v t last=(0,n)):1≤n∧n≤32:=by
 unfold Ct.sizeAt at hs
 cases hf:c.find v with
 | none=> rw [hf] at hs;cases hs
 | some x=>
   rw [hf] at hs;simp only at hs;have hx:=(h.vols x (List.mem_of_find?_eq_some hf)).sizes
   cases hz:zdD x.sizes t with
   | none=> rw [hz] at hs;cases hs
   | some m=>
     rw [hz] at hs;simp only at hs
     split at hs
     ·cases hs
      unfold zdD at hz
      cases hl:(x.sizes.filter fun m=> decide (m.1≤t)).getLast? with
      | none=> rw [hl] at hz;cases hz
      | some y=>
        rw [hl] at hz;simp at hz;have:=(hx.fit y (List.mem_filter.1 (zdQ hl)).1).2
        omega
     ·cases hs
theorem zbR {l:List Mk} {s:Nat} (h:SzI l s):1≤zas l∧zas l≤32:=by
 unfold zas
 cases hl:l.getLast? with
 | none=> exact absurd (List.getLast?_eq_none_iff.1 hl) h.some
 | some x=>
   have:=(h.fit x (zdQ hl)).2
   simpa using this
theorem zib:∀{l:List Int} {a:Int},zbU a l=true→∀m ∈ l,a < m∧m≤65535
 | [],_,_,m,hm=> by cases hm
 | x::l,a,h,m,hm=> by
   unfold zbU at h;simp only [Bool.and_eq_true,decide_eq_true_eq] at h;rcases List.mem_cons.1 hm with rfl | hm
   ·exact ⟨h.1.1,h.1.2⟩
   ·have:=zib h.2 m hm;omega
theorem MsI.of {l:List Int} (h:zfT l=true):MsI l:=by
 unfold zfT at h;simp only [Bool.and_eq_true,decide_eq_true_eq] at h;exact ⟨fun m hm=> by have:=zib h.1 m hm;omega,h.2.2⟩
theorem za0 {c:Ct} {v:Int} {x:Vl} (h:c.find v=some x):x ∈ c.vols∧(x.id:Int)=v:=by
 unfold Ct.find at h;exact ⟨List.mem_of_find?_eq_some h,by have:=List.find?_some h;simpa using this⟩
structure PoR (o:PO):Prop where
 kind:1≤o.k∧o.k≤14
 vol:o.k=2∨o.k=3∨o.k=4∨o.k=5∨o.k=10∨o.k=11∨o.k=12∨o.k=13→1≤o.v∧o.v≤65535
 num:o.k=7∨o.k=8∨o.k=9∨o.k=12→1≤o.i∧o.i≤65535
 place:o.k=4∨o.k=5→0≤o.b∧o.b≤31
 count:o.k=1∨o.k=3∨o.k=5→1≤o.n∧o.n≤32
 data:o.k=4→1≤o.d.length∧o.d.length≤64
 mem:o.k=6→zfT o.m=true
theorem PoR.of {o:PO} (hk:1≤o.k∧o.k≤14) (h:o.right=true):PoR o:=by
 have h3:o.k=1∨o.k=2∨o.k=3∨o.k=4∨o.k=5∨o.k=6∨o.k=7∨o.k=8∨o.k=9∨o.k=10∨o.k=11∨o.k=12∨o.k=13∨o.k=14:=by omega
 unfold PO.right zeC at h;rw [Bool.and_eq_true] at h;have h2:=h.2;rcases h3 with e | e | e | e | e | e | e | e | e | e | e | e | e | e
 all_goals
  rw [e] at h2;refine ⟨hk,fun h=> ?_,fun h=> ?_,fun h=> ?_,fun h=> ?_,fun h=> ?_,fun h=> ?_⟩ <;> first
   | (exfalso;omega)
   | (simp [zh1,zpW,znF,zfv,zfu,zj7] at h2;omega)
   | (simpa [zh1,zpW] using h2)
structure zfJ (l:List En) (g:Chg) (s k:Nat):Prop where
 c:CtI g.c s k
 seq:g.seq=s
 vol:g.vol≤65535
 drop:g.drop≤65535
 blk:∀p ∈ g.puts,p.b < 32
 len:g.puts.length≤32
 nodup:(g.puts.map (·.b)).Nodup
 held:∀p ∈ g.puts,p.d=none→p.a=0∨∃e ∈ l,e.2=p.a
 data:∀p ∈ g.puts,∀d,p.d=some d→d.length=64∧g.puts= [p]
theorem zeO (l:List En) (v b s:Nat):atL l v b s=0∨∃e ∈ l,e.2=atL l v b s:=by
 unfold atL
 cases hf:zb2 l (za9 v b s) with
 | none=> exact .inl rfl
 | some e=>
   simp only
   split
   ·exact .inr ⟨e,(List.mem_filter.1 (zdQ hf)).1,rfl⟩
   ·exact .inl rfl
theorem zfJ.plain {l:List En} {g:Chg} {s k:Nat} (h:CtI g.c s k) (hs:g.seq=s) (hv:g.vol≤65535) (hd:g.drop≤65535) (hp:g.puts= []):zfJ l g s k:=
 ⟨h,hs,hv,hd,by rw [hp];simp,by rw [hp];simp,by rw [hp];simp,by rw [hp];simp,by rw [hp];simp⟩
theorem zfJ.puts {l:List En} {g:Chg} {s k:Nat} (h:CtI g.c s k) (hs:g.seq=s) (hv:g.vol≤65535) (hd:g.drop≤65535) {a n:Nat} {f:Nat→Bool} {q:Nat→Nat} (hp:g.puts=((List.range' a n).filter f).map fun b=> ⟨b,q b,none⟩) (hq:∀b,q b=0∨∃e ∈ l,e.2=q b) (hn:n=0∨a+n≤32):zfJ l g s k:=by
 have hb:∀p ∈ g.puts,p.b < 32∧p.d=none∧p.a=q p.b:=fun p h=> by
  rw [hp] at h;obtain ⟨b,hb,rfl⟩:=List.mem_map.1 h;have:=List.mem_range'_1.1 (List.mem_filter.1 hb).1;exact ⟨by simp only;omega,rfl,rfl⟩
 refine ⟨h,hs,hv,hd,fun p h=> (hb p h).1, ?_, ?_,fun p h _=> by rw [(hb p h).2.2];exact hq _,fun p h d hd=> by rw [(hb p h).2.1] at hd;cases hd⟩
 ·rw [hp,List.length_map];have:=List.length_filter_le f (List.range' a n);rw [List.length_range'] at this
  omega
 ·rw [hp,List.map_map];have:((List.range' a n).filter f).map ((fun p:Pu=> p.b) ∘ fun b=> (⟨b,q b,none⟩:Pu))=(List.range' a n).filter f:=by
   rw [show ((fun p:Pu=> p.b) ∘ fun b=> (⟨b,q b,none⟩:Pu))=id from rfl,List.map_id]
  rw [this];exact List.Nodup.sublist List.filter_sublist List.nodup_range'
theorem zhP {window every:Nat} {c:Ct} {l:List En} {s clock:Nat} {o:PO} (h:CtI c s clock) (ho:PoR o) {g:Chg} (hg:zV window every c l (s+1) clock o=(0,g)):
 zfJ l g (s+1) clock∧TmI g.c.times s clock:=by
 have hl:=h.later (t:=s+1) (d:=clock) (by omega) zl
 unfold zV at hg
 split at hg
 ·unfold zb1 at hg;simp only at hg;have hn:=ho.count (by omega)
  obtain ⟨h1,h2⟩:=Prod.mk.inj hg;obtain ⟨q1,q2,q3,q4⟩:=h.create (n:=o.n.toNat) (by omega) rfl h1
  subst h2;exact ⟨zfJ.plain q1 rfl (by simp [Chg.nil]) (by simp [Chg.nil]) rfl,by simp only;rw [q4];exact h.times⟩
 split at hg
 ·have hv:=ho.vol (by omega)
  unfold zbh at hg
  split at hg
  ·cases hg
  ·cases hg
   exact ⟨zfJ.plain ((hl.delete _).forget _) rfl (by simp [Chg.nil]) (by simp only;omega) rfl,h.times⟩
 split at hg
 ·have hv:=ho.vol (by omega)
  have hn:=ho.count (by omega)
  unfold za6 at hg
  cases hf:c.find o.v with
  | none=> rw [hf] at hg;cases hg
  | some x=>
    rw [hf] at hg;have hx:=(h.vols x (za0 hf).1).sizes;simp only at hg
    split at hg
    ·rename_i h0
     have:=(Prod.mk.inj hg).1;exact absurd this h0
    ·rename_i h0
     cases hg
     have h0:(zbf x.sizes (s+1) o.n.toNat).1=0:=by omega
     have hw:=zbR hx;refine ⟨zfJ.puts (hl.resize _ (zik hx (n:=o.n.toNat) (by omega) (Prod.ext h0 rfl))) rfl (by simp only;omega) (by simp [Chg.nil]) (a:=o.n.toNat) (n:=zas x.sizes - o.n.toNat) (q:=fun _=> 0) rfl (fun b=> .inl rfl) (by omega),h.times⟩
 split at hg
 ·have hv:=ho.vol (by omega)
  have hb:=ho.place (by omega)
  unfold zaz at hg
  cases hf:c.find o.v with
  | none=> rw [hf] at hg;cases hg
  | some x=>
    rw [hf] at hg;have hx:=(h.vols x (za0 hf).1).sizes;have hw:=zbR hx;simp only at hg
    split at hg
    ·split at hg
     ·cases hg
     ·cases hg
      refine ⟨zfJ.puts hl rfl (by simp only;omega) (by simp [Chg.nil]) (a:=o.b.toNat) (n:=o.n.toNat) (q:=fun _=> 0) rfl (fun b=> .inl rfl) (by omega),h.times⟩
    ·split at hg
     ·cases hg
     ·cases hg
      refine ⟨⟨hl,rfl,by simp only;omega,by simp [Chg.nil], ?_,by simp,by simp, ?_, ?_⟩,h.times⟩
      ·intro p hp;simp at hp;subst hp;simp only;omega
      ·intro p hp hd;simp at hp;subst hp
       cases hd
      ·intro p hp d hd;simp at hp;subst hp
       cases hd
       exact ⟨zaK _,rfl⟩
 split at hg
 ·unfold zaU at hg;obtain ⟨h1,h2⟩:=Prod.mk.inj hg;obtain ⟨q1,q2⟩:=hl.add (MsI.of (ho.mem (by omega))) rfl h1
  subst h2;exact ⟨zfJ.plain q1 rfl (by simp [Chg.nil]) (by simp [Chg.nil]) rfl,by simp only;rw [q2];exact h.times⟩
 split at hg
 ·split at hg
  ·cases hg
  ·cases hg
   exact ⟨zfJ.plain (hl.ungroup _) rfl (by simp [Chg.nil]) (by simp [Chg.nil]) rfl,h.times⟩
 split at hg
 ·unfold zaU at hg;obtain ⟨h1,h2⟩:=Prod.mk.inj hg;obtain ⟨q1,q2⟩:=h.mark o.i rfl h1;subst h2;exact ⟨zfJ.plain q1 rfl (by simp [Chg.nil]) (by simp [Chg.nil]) rfl,by simp only;rw [q2];exact h.times⟩
 split at hg
 ·split at hg
  ·cases hg
  ·cases hg
   exact ⟨zfJ.plain (hl.unmark _) rfl (by simp [Chg.nil]) (by simp [Chg.nil]) rfl,h.times⟩
 split at hg
 ·have hv:=ho.vol (by omega)
  unfold zcW at hg;simp only at hg
  split at hg
  ·rename_i h0
   exact absurd (Prod.mk.inj hg).1 h0
  ·rename_i h0
   have h0:(c.sizeAt o.v o.pt.toNat (s+1 - 1)).1=0:=by omega
   have hz:1≤(c.sizeAt o.v o.pt.toNat (s+1 - 1)).2∧(c.sizeAt o.v o.pt.toNat (s+1 - 1)).2≤32:=Ct.sizeAt_fit h (v:=o.v) (t:=o.pt.toNat) (last:=s+1 - 1) (Prod.ext h0 rfl)
   cases hf:c.find o.v with
   | none=> rw [hf] at hg;cases hg
   | some x=>
     rw [hf] at hg;have hx:=(h.vols x (za0 hf).1).sizes;have hw:=zbR hx;simp only at hg;obtain ⟨h1,h2⟩:=Prod.mk.inj hg;subst h2;refine ⟨zfJ.puts (hl.resize _ (zik hx hz (Prod.ext h1 rfl))) rfl (by simp only;omega) (by simp [Chg.nil]) (a:=0) (n:=max (c.sizeAt o.v o.pt.toNat (s+1 - 1)).2 (zas x.sizes)) (f:=fun b=> decide (zeN l o.v.toNat o.pt.toNat (c.sizeAt o.v o.pt.toNat (s+1 - 1)).2 b≠atL l o.v.toNat b (s+1 - 1))) (q:=zeN l o.v.toNat o.pt.toNat (c.sizeAt o.v o.pt.toNat (s+1 - 1)).2) (by simp only [zbw,List.range_eq_range']) (fun b=> ?_) (by omega),h.times⟩
     unfold zeN
     split
     ·exact zeO _ _ _ _
     ·exact .inl rfl
 split at hg
 ·cases hg
  exact ⟨zfJ.plain (hl.retain _ _ _) rfl (by simp [Chg.nil]) (by simp [Chg.nil]) rfl,h.times.rise.filter _,fun m hm=> h.times.fit m (List.mem_filter.1 hm).1,zs (List.length_filter_le _ _) h.times.len⟩
 ·have hv:1≤o.v∧o.v≤65535:=ho.vol (by have:=ho.kind;omega)
  unfold zcO at hg;simp only at hg
  split at hg
  ·rename_i h0;exact absurd (Prod.mk.inj hg).1 h0
  ·split at hg
   ·rename_i h0;exact absurd (Prod.mk.inj hg).1 h0
   ·rename_i _ h0
    have h0:(c.sizeAt o.v (zav c o).2 (s+1 - 1)).1=0:=by omega
    have hz:1≤(c.sizeAt o.v (zav c o).2 (s+1 - 1)).2∧(c.sizeAt o.v (zav c o).2 (s+1 - 1)).2≤32:=Ct.sizeAt_fit h (v:=o.v) (t:=(zav c o).2) (last:=s+1 - 1) (Prod.ext h0 rfl);obtain ⟨h1,h2⟩:=Prod.mk.inj hg;obtain ⟨q1,q2,q3,q4⟩:=h.create (n:=(c.sizeAt o.v (zav c o).2 (s+1 - 1)).2) hz rfl h1;subst h2;refine ⟨zfJ.puts q1 rfl (by simp only;omega) (by simp [Chg.nil]) (a:=0) (n:=(c.sizeAt o.v (zav c o).2 (s+1 - 1)).2) (f:=fun b=> decide (atL l o.v.toNat b (zav c o).2≠0)) (q:=fun b=> atL l o.v.toNat b (zav c o).2) (by simp only [zcG,List.range_eq_range']) (fun b=> zeO _ _ _ _) (by omega),by simp only;rw [q4];exact h.times⟩
theorem zem {window every:Nat} {c:Ct} {l:List En} {s clock:Nat} {o:PO} (h:CtI c s clock) {g:Chg} (hg:zc9 window every c l s clock o=(0,g)):PoR o∧s≠18446744073709551615∧zfJ l g (s+1) clock:=by
 unfold zc9 at hg
 split at hg
 ·cases hg
 ·rename_i hk
  split at hg
  ·cases hg
  ·rename_i hs
   have ho:PoR o:=PoR.of (by omega) (by
        cases hr:o.right with
        | true=> rfl
        | false=> exact absurd (.inr hr) hk)
   simp only at hg
   split at hg
   ·rename_i h0;exact absurd (Prod.mk.inj hg).1 h0
   ·rename_i h0
    have h0:(zV window every c l (s+1) clock o).1=0:=by omega
    obtain ⟨q1,q2⟩:=zhP h ho (Prod.ext h0 rfl:zV window every c l (s+1) clock o=(0,(zV window every c l (s+1) clock o).2))
    split at hg
    ·rename_i h1;exact absurd (Prod.mk.inj hg).1 h1
    ·rename_i h1
     have h1:(za7 (zV window every c l (s+1) clock o).2.c.times (s+1) clock).1=0:=by omega
     have h2:=(Prod.mk.inj hg).2;subst h2;have ht:=zlN q2 (Prod.ext h1 rfl);have hc:=q1.c;exact ⟨ho,hs,⟨⟨hc.nv,hc.ng,hc.nb,hc.fl,hc.vols,hc.ids,hc.vlen,hc.groups,hc.gids,hc.glen,hc.books,hc.bids,hc.blen,hc.kept,hc.klen,ht⟩,q1.seq,q1.vol,q1.drop,q1.blk,q1.len,q1.nodup,q1.held,q1.data⟩⟩
end
section
theorem zgT {c:Ct} {s k:Nat} (h:CtI c s k) {x:Vl} (hx:x ∈ c.vols):c.find (x.id:Int)=some x:=by
 unfold Ct.find;have hp:=h.ids;generalize c.vols=l at hx hp
 induction l with
 | nil=> cases hx
 | cons y l ih=>
   simp only [List.map_cons,List.pairwise_cons] at hp;rw [List.find?_cons];rcases List.mem_cons.1 hx with rfl | hx
   ·simp
   ·have:=hp.1 x.id (List.mem_map.2 ⟨x,hx,rfl⟩);have Aj:¬((y.id:Int)=(x.id:Int)):=by omega
    simp only [Aj,decide_false];exact ih hx hp.2
theorem zfH (m:Mk) (l:List Mk) (t:Nat):zdD (m::l) t=match zdD l t with
 | some n=> some n
 | none=> if m.1≤t then some m.2 else none:=by
 unfold zdD;rw [List.filter_cons]
 by_cases h:m.1≤t
 ·rw [if_pos (decide_eq_true h),List.getLast?_cons];generalize (l.filter fun m=> decide (m.1≤t)).getLast? =q
  cases q <;> simp [h]
 ·rw [if_neg (by simp [h])]
  generalize (l.filter fun m=> decide (m.1≤t)).getLast? =q
  cases q <;> simp [h]
theorem znq {l:List Mk} {m:Mk} {t:Nat} (h:t < m.1):zdD (l++ [m]) t=zdD l t:=by
 unfold zdD;rw [List.filter_append];have:([m].filter fun m=> decide (m.1≤t))= []:=by simp;omega
 rw [this,List.append_nil]
theorem znp {l:List Mk} {t:Nat} (h:zdD l t=none):∀m ∈ l,t < m.1:=fun m hm=> by
 unfold zdD at h;simp only [Option.map_eq_none_iff,List.getLast?_eq_none_iff,List.filter_eq_nil_iff,decide_eq_true_eq] at h;have:=h m hm
 omega
theorem zih {ps:List Nat} {fl t:Nat} (h:fl≤t∨t ∈ ps):∀{l:List Mk},l.Pairwise (fun a b=> a.1 < b.1)→zdD (za4 ps fl l) t=zdD l t
 | [],_=> rfl
 | [m],_=> rfl
 | m::x::l,hp=> by
   have ih:=zih h (l:=x::l) (List.pairwise_cons.1 hp).2;have hm:=(List.pairwise_cons.1 hp).1 x List.mem_cons_self;unfold za4
   split
   ·rw [zfH,ih,zfH m (x::l)]
   ·rename_i hc
    rw [ih,zfH m (x::l)]
    cases hz:zdD (x::l) t with
    | some n=> rfl
    | none=>
      have:=znp hz x List.mem_cons_self;simp only;rw [if_neg];intro ay;rcases h with h | h
      ·exact hc (.inl (by omega))
      ·exact hc (.inr ⟨t,h,ay,this⟩)
structure zeI (c c':Ct) (u:Int) (t:Nat):Prop where
 find:∀x',c'.find u=some x'→x'.born≤t→(c'.fl≤t∨t ∈ c'.ofL u)→∃x,c.find u=some x∧x.born=x'.born∧zdD x'.sizes t=zdD x.sizes t
 pt:c'.fl≤t∨t ∈ c'.ofL u→c.fl≤t∨t ∈ c.ofL u
theorem zeI.refl (c:Ct) (u:Int) (t:Nat):zeI c c u t:=⟨fun x h _ _=> ⟨x,h,rfl,rfl⟩,fun h=> h⟩
theorem zeI.trans {a b c:Ct} {u:Int} {t:Nat} (h:zeI a b u t) (k:zeI b c u t):zeI a c u t:=by
 refine ⟨fun x hx hb hp=> ?_,fun hp=> h.pt (k.pt hp)⟩;obtain ⟨y,y1,y2,y3⟩:=k.find x hx hb hp;obtain ⟨z,z1,z2,z3⟩:=h.find y y1 (by omega) (k.pt hp)
 exact ⟨z,z1,by omega,by rw [y3,z3]⟩
theorem zeI.may {c c':Ct} {u:Int} {t s:Nat} (h:zeI c c' u t) (ht:t≤s) (hm:c'.may u t (s+1)=true):c.may u t s=true∧c'.sizeAt u t (s+1)=c.sizeAt u t s∧(c'.fl≤t∨t ∈ c'.ofL u):=by
 have DT:=hm;unfold Ct.may at hm
 cases hf:c'.find u with
 | none=> rw [hf] at hm;cases hm
 | some x'=>
   rw [hf] at hm;simp only [Bool.and_eq_true,Bool.or_eq_true,decide_eq_true_eq] at hm;obtain ⟨x,x1,x2,x3⟩:=h.find x' hf hm.1 hm.2.2;have hp:=h.pt hm.2.2;have hc:c.may u t s=true:=by
    unfold Ct.may;rw [x1];simp only [Bool.and_eq_true,Bool.or_eq_true,decide_eq_true_eq];exact ⟨by omega,ht,hp⟩
   refine ⟨hc, ?_,hm.2.2⟩;unfold Ct.sizeAt;rw [hf,x1];simp only;rw [x3,DT,hc]
theorem ze5 {c:Ct} {u:Int} {t n s:Nat} (ht:t < s) {r:Nat × Ct × Nat} (hr:c.create n s=r):zeI c r.2.1 u t:=by
 unfold Ct.create at hr
 split at hr
 ·subst hr;exact zeI.refl _ _ _
 ·subst hr;refine ⟨fun x' hx hb _=> ?_,fun h=> h⟩;unfold Ct.find at hx ⊢;simp only [List.find?_append] at hx
  cases hf:c.vols.find? fun x=> decide ((x.id:Int)=u) with
  | some y=> rw [hf] at hx;simp at hx;subst hx;exact ⟨_,rfl,rfl,rfl⟩
  | none=>
    rw [hf] at hx;simp only [Option.none_or] at hx;rw [List.find?_singleton] at hx
    split at hx
    ·simp at hx;subst hx;simp only at hb
     omega
    ·cases hx
theorem znU {c c':Ct} {u:Int} {t s k:Nat} (h:CtI c s k) (hv:∀x ∈ c'.vols,x ∈ c.vols) (hp:c'.fl≤t∨t ∈ c'.ofL u→c.fl≤t∨t ∈ c.ofL u):zeI c c' u t:=by
 refine ⟨fun x hx _ _=> ?_,hp⟩;obtain ⟨h1,h2⟩:=za0 hx;exact ⟨x,by rw [← h2];exact zgT h (hv x h1),rfl,rfl⟩
theorem ze6 {c:Ct} {u:Int} {t s k:Nat} (h:CtI c s k) {v:Int} {x:Vl} (hx:c.find v=some x) {l:List Mk} (hl:zdD l t=zdD x.sizes t):zeI c (c.resize v l) u t:=by
 refine ⟨fun y hy _ _=> ?_,fun h=> h⟩;obtain ⟨h1,h2⟩:=za0 hy;obtain ⟨z,hz,rfl⟩:=List.mem_map.1 h1
 split at h2
 ·rename_i M2
  have h3:=zgT h hz;rw [M2,hx] at h3
  cases h3
  refine ⟨x,by rw [← h2];show c.find (x.id:Int)=_;rw [M2];exact hx, ?_, ?_⟩
  ·rw [if_pos M2]
  ·rw [if_pos M2];exact hl
 ·rename_i M2
  refine ⟨z,by rw [← h2];exact zgT h hz, ?_, ?_⟩ <;> rw [if_neg M2]
theorem zkj {l r:List Mk} {s n t:Nat} (ht:t < s) (h:zbf l s n=(0,r)):zdD r t=zdD l t:=by
 unfold zbf at h
 split at h
 ·cases h
 ·split at h
  ·cases h;rfl
  ·split at h
   ·cases h
   ·cases h;exact znq ht
theorem ziy (c:Ct) (v u:Int) (t:Nat):zeI c (c.forget v) u t:=by
 refine ⟨fun x hx _ _=> ⟨x,hx,rfl,rfl⟩,fun h=> ?_⟩;rcases h with h | h
 ·exact .inl h
 ·right
  unfold Ct.ofL at h ⊢;rcases List.mem_append.1 h with h | h
  ·exact List.mem_append_left _ h
  ·obtain ⟨b,hb,rfl⟩:=List.mem_map.1 h;obtain ⟨hb,hu⟩:=List.mem_filter.1 hb;obtain ⟨b0,Aq,he⟩:=List.mem_filterMap.1 hb;simp only at he
   split at he
   ·cases he
   ·cases he
    refine List.mem_append_right _ (List.mem_map.2 ⟨b0,List.mem_filter.2 ⟨Aq, ?_⟩,rfl⟩);have:=of_decide_eq_true hu;exact decide_eq_true (List.mem_filter.1 this).1
theorem ziz {c:Ct} {u:Int} {t s k:Nat} (h:CtI c s k) (now window every:Nat):zeI c (c.retain now window every) u t:=by
 have hf:=Ct.floor_le h now window;refine ⟨fun y hy _ hp=> ?_,fun hp=> ?_⟩
 ·obtain ⟨h1,h2⟩:=za0 hy;obtain ⟨z,hz,rfl⟩:=List.mem_map.1 h1;refine ⟨z,by rw [← h2];exact zgT h hz,rfl, ?_⟩
  have h2:(z.id:Int)=u:=h2;exact zih (by
   rw [h2];exact hp) (h.vols z hz).sizes.rise
 ·rcases hp with hp | hp
  ·left
   have:c.floor now window≤t:=hp
   omega
  ·unfold Ct.ofL at hp ⊢;rcases List.mem_append.1 hp with hp | hp
   ·rcases Ct.keep_mem hp with h1 | h1
    ·exact .inr (List.mem_append_left _ h1)
    ·exact .inl h1.1
   ·exact .inr (List.mem_append_right _ hp)
theorem zkw (c:Ct) (l:List Mk) (u:Int) (t:Nat):zeI c {c with times:=l} u t:=⟨fun x hx _ _=> ⟨x,hx,rfl,rfl⟩,fun h=> h⟩
theorem zkS {window every:Nat} {c:Ct} {l:List En} {s clock:Nat} {o:PO} (h:CtI c s clock) {g:Chg} (hg:zV window every c l (s+1) clock o=(0,g)) (u:Int) (t:Nat) (ht:t≤s):
 zeI c g.c u t∧(g.drop=0∨((g.drop:Int)=o.v∧g.c.find o.v=none)∨o.v < 1):=by
 unfold zV at hg
 split at hg
 ·obtain ⟨-,h2⟩:=Prod.mk.inj hg;subst h2;exact ⟨ze5 (by omega) rfl, .inl rfl⟩
 split at hg
 ·unfold zbh at hg
  cases hf:c.find o.v with
  | none=> rw [hf] at hg;cases hg
  | some x=>
    rw [hf] at hg
    cases hg
    refine ⟨(znU h (c':=c.delete o.v) (fun x hx=> List.eraseP_sublist.subset hx) (fun h=> h)).trans (ziy _ _ _ _), ?_⟩
    by_cases hv:o.v < 1
    ·exact .inr (.inr hv)
    ·refine .inr (.inl ⟨by simp only;omega, ?_⟩)
     show (c.delete o.v).find o.v=none
     unfold Ct.find Ct.delete;have hp:=h.ids;clear hf;generalize c.vols=vs at hp
     induction vs with
     | nil=> rfl
     | cons y vs ih=>
       simp only [List.map_cons,List.pairwise_cons] at hp;rw [List.eraseP_cons]
       by_cases hy:(y.id:Int)=o.v
       ·simp only [hy,decide_true,cond_true];rw [List.find?_eq_none];intro z hz;have:=hp.1 z.id (List.mem_map.2 ⟨z,hz,rfl⟩);simp;omega
       ·simp only [hy,decide_false,cond_false];rw [List.find?_cons];simp only [hy,decide_false];exact ih hp.2
 split at hg
 ·unfold za6 at hg
  cases hf:c.find o.v with
  | none=> rw [hf] at hg;cases hg
  | some x=>
    rw [hf] at hg;simp only at hg
    split at hg
    ·rename_i h0;exact absurd (Prod.mk.inj hg).1 h0
    ·rename_i h0
     cases hg
     exact ⟨ze6 h hf (zkj (s:=s+1) (by omega) (Prod.ext (by omega) rfl)), .inl rfl⟩
 split at hg
 ·unfold zaz at hg
  cases hf:c.find o.v with
  | none=> rw [hf] at hg;cases hg
  | some x=>
    rw [hf] at hg;simp only at hg
    split at hg
    ·split at hg
     ·cases hg
     ·cases hg;exact ⟨zeI.refl _ _ _, .inl rfl⟩
    ·split at hg
     ·cases hg
     ·cases hg;exact ⟨zeI.refl _ _ _, .inl rfl⟩
 split at hg
 ·obtain ⟨-,h2⟩:=Prod.mk.inj hg;subst h2;refine ⟨?_, .inl rfl⟩
  show zeI c (c.add o.m).2.1 u t
  unfold Ct.add
  split
  ·exact zeI.refl _ _ _
  ·split
   ·exact zeI.refl _ _ _
   ·exact ⟨fun x hx _ _=> ⟨x,hx,rfl,rfl⟩,fun h=> h⟩
 split at hg
 ·split at hg
  ·cases hg
  ·cases hg;exact ⟨⟨fun x hx _ _=> ⟨x,hx,rfl,rfl⟩,fun h=> h⟩, .inl rfl⟩
 split at hg
 ·obtain ⟨-,h2⟩:=Prod.mk.inj hg;subst h2;refine ⟨?_, .inl rfl⟩
  show zeI c (c.mark o.i (s+1)).2.1 u t
  unfold Ct.mark
  split
  ·exact zeI.refl _ _ _
  ·split
   ·exact zeI.refl _ _ _
   ·refine ⟨fun x hx _ _=> ⟨x,hx,rfl,rfl⟩,fun hp=> ?_⟩;rcases hp with hp | hp
    ·exact .inl hp
    ·right
     unfold Ct.ofL at hp ⊢;simp only [List.filter_append,List.map_append,List.mem_append] at hp ⊢;rcases hp with hp | hp | hp
     ·exact .inl hp
     ·exact .inr hp
     ·exfalso;obtain ⟨b,hb,rfl⟩:=List.mem_map.1 hp;have:=(List.mem_filter.1 hb).1;simp at this;rw [this] at ht;simp only at ht
      omega
 split at hg
 ·split at hg
  ·cases hg
  ·cases hg
   refine ⟨⟨fun x hx _ _=> ⟨x,hx,rfl,rfl⟩,fun hp=> ?_⟩, .inl rfl⟩;rcases hp with hp | hp
   ·exact .inl hp
   ·right
    unfold Ct.ofL at hp ⊢;rcases List.mem_append.1 hp with hp | hp
    ·exact List.mem_append_left _ hp
    ·obtain ⟨b,hb,rfl⟩:=List.mem_map.1 hp;obtain ⟨h1,h2⟩:=List.mem_filter.1 hb;exact List.mem_append_right _ (List.mem_map.2 ⟨b,List.mem_filter.2 ⟨List.eraseP_sublist.subset h1,h2⟩,rfl⟩)
 split at hg
 ·unfold zcW at hg;simp only at hg
  split at hg
  ·rename_i h0;exact absurd (Prod.mk.inj hg).1 h0
  ·cases hf:c.find o.v with
   | none=> rw [hf] at hg;cases hg
   | some x=>
     rw [hf] at hg;simp only at hg;obtain ⟨h1,h2⟩:=Prod.mk.inj hg;subst h2;exact ⟨ze6 h hf (zkj (s:=s+1) (by omega) (Prod.ext h1 rfl)), .inl rfl⟩
 split at hg
 ·cases hg;exact ⟨ziz h _ _ _, .inl rfl⟩
 ·unfold zcO at hg;simp only at hg
  split at hg
  ·rename_i h0;exact absurd (Prod.mk.inj hg).1 h0
  ·split at hg
   ·rename_i h0;exact absurd (Prod.mk.inj hg).1 h0
   ·obtain ⟨-,h2⟩:=Prod.mk.inj hg;subst h2;exact ⟨ze5 (by omega) rfl, .inl rfl⟩
end
end Go.Proofs.YtaoceecfjlkmdaaGreat
