/- Lemmas of the walks, merged and pressed by press.py. Conditions: those of each theorem. -/
import Derived.Test.YtfldlfladcfggaaGreatM20
set_option maxRecDepth 100000
set_option maxHeartbeats 64000000
set_option linter.all false
namespace Go.Proofs.YtfldlfladcfggaaGreat
section
structure SzI (l:List Mk) (seq:Nat):Prop where
 some:l≠ []
 rise:l.Pairwise fun a b=> a.1 < b.1
 fit:∀m ∈ l,m.1≤seq∧1≤m.2∧m.2≤32
 len:l.length≤16
structure VlI (x:Vl) (nv seq:Nat):Prop where
 id:1≤x.id∧x.id≤nv
 born:x.born≤seq
 sizes:SzI x.sizes seq
structure MsI (l:List Int):Prop where
 fit:∀m ∈ l,1≤m∧m≤65535
 len:l.length≤8
structure TmI (l:List Mk) (seq clock:Nat):Prop where
 rise:l.Pairwise fun a b=> a.1 < b.1∧a.2 < b.2
 fit:∀m ∈ l,m.1≤seq∧m.2≤clock
 len:l.length≤64
structure CtI (c:Ct) (seq clock:Nat):Prop where
 nv:c.nv≤65535
 ng:c.ng≤65535
 nb:c.nb≤65535
 fl:c.fl≤seq
 vols:∀x ∈ c.vols,VlI x c.nv seq
 ids:(c.vols.map (·.id)).Pairwise (· < ·)
 vlen:c.vols.length≤8
 groups:∀x ∈ c.groups,x.id≤c.ng∧MsI x.ms
 gids:(c.groups.map (·.id)).Pairwise (· < ·)
 glen:c.groups.length≤4
 books:∀x ∈ c.books,x.id≤c.nb∧x.seq≤seq∧MsI x.ms
 bids:(c.books.map (·.id)).Pairwise (· < ·)
 blen:c.books.length≤8
 kept:∀k ∈ c.kept,k≤seq
 klen:c.kept.length≤32
 times:TmI c.times seq clock
theorem SzI.later {l:List Mk} {s t:Nat} (h:SzI l s) (AO:s≤t):SzI l t:=⟨h.some,h.rise,fun m hm=> by have:=h.fit m hm;omega,h.len⟩
theorem VlI.later {x:Vl} {n m s t:Nat} (h:VlI x n s) (hn:n≤m) (AO:s≤t):VlI x m t:=⟨by have:=h.id;omega,by have:=h.born;omega,h.sizes.later AO⟩
theorem TmI.later {l:List Mk} {s t c d:Nat} (h:TmI l s c) (hs:s≤t) (hc:c≤d):TmI l t d:=⟨h.rise,fun m hm=> by have:=h.fit m hm;omega,h.len⟩
theorem CtI.later {c:Ct} {s t k d:Nat} (h:CtI c s k) (hs:s≤t) (hc:k≤d):CtI c t d:=
 ⟨h.nv,h.ng,h.nb,zs h.fl hs,fun x hx=> (h.vols x hx).later zl hs,h.ids,h.vlen,h.groups,h.gids,h.glen,fun x hx=> by have:=h.books x hx;exact ⟨this.1,by omega,this.2.2⟩,h.bids,h.blen,fun k hk=> zs (h.kept k hk) hs,h.klen,h.times.later hs hc⟩
theorem CtI.nil {s k:Nat} {fl:Nat} (h:fl≤s):CtI ⟨0,0,0,fl, [], [], [], [], []⟩ s k:=by
 refine ⟨by simp,by simp,by simp,h,by simp,List.Pairwise.nil,by simp,by simp,List.Pairwise.nil,by simp,by simp,List.Pairwise.nil,by simp,by simp,by simp,⟨List.Pairwise.nil,fun m hm=> (by cases hm),by simp⟩⟩
theorem zdQ {α:Type} {l:List α} {x:α} (h:l.getLast? =some x):x ∈ l:=List.mem_of_getLast? h
theorem zik {l:List Mk} {s n:Nat} (h:SzI l s) (hn:1≤n∧n≤32) {r:List Mk} (hr:zbf l (s+1) n=(0,r)):SzI r (s+1):=by
 unfold zbf at hr
 split at hr
 ·cases hr
 ·rename_i hl
  split at hr
  ·cases hr;exact h.later (by omega)
  ·split at hr
   ·cases hr
   ·rename_i Ac
    cases hr
    refine ⟨by simp, ?_, ?_,by simp;omega⟩
    ·rw [List.pairwise_append];exact ⟨h.rise,List.pairwise_singleton _ _,fun a ha b hb=> by
         simp at hb;subst hb;have:=(h.fit a ha).1
         show a.1 < s+1
         omega⟩
    ·intro m hm;rcases List.mem_append.1 hm with hm | hm
     ·have:=h.fit m hm;omega
     ·simp at hm;subst hm;simp only;omega
theorem znr {s n:Nat} (hn:1≤n∧n≤32):SzI [(s,n)] s:=⟨by simp,List.pairwise_singleton _ _,fun m hm=> by simp at hm;subst hm;simp only;omega,by simp⟩
theorem zel (ps:List Nat) (fl:Nat):∀l:List Mk,(za4 ps fl l).Sublist l
 | []=> List.Sublist.slnil
 | [m]=> List.Sublist.refl _
 | m::x::l=> by
   unfold za4
   split
   ·exact (zel ps fl (x::l)).cons_cons m
   ·exact (zel ps fl (x::l)).cons m
theorem zfI (ps:List Nat) (fl:Nat):∀l:List Mk,l≠ []→za4 ps fl l≠ []
 | [],h=> absurd rfl h
 | [m],_=> by simp [za4]
 | m::x::l,_=> by
   unfold za4
   split
   ·simp
   ·exact zfI ps fl (x::l) (by simp)
theorem zlI {l:List Mk} {s:Nat} (h:SzI l s) (ps:List Nat) (fl:Nat):SzI (za4 ps fl l) s:=
 have hs:=zel ps fl l
 ⟨zfI ps fl l h.some,h.rise.sublist hs,fun m hm=> h.fit m (hs.subset hm),zs hs.length_le h.len⟩
theorem zlN {l:List Mk} {s k:Nat} (h:TmI l s k) {r:List Mk} (hr:za7 l (s+1) k=(0,r)):TmI r (s+1) k:=by
 unfold za7 at hr
 cases hl:l.getLast? with
 | none=>
   rw [hl] at hr
   cases hr
   exact ⟨List.pairwise_singleton _ _,fun m hm=> by simp at hm;subst hm;simp,by simp⟩
 | some x=>
   rw [hl] at hr;simp only at hr;have hx:=h.fit x (zdQ hl);have YD:l=l.dropLast++ [x]:=by
    have h0:l≠ []:=fun e=> by rw [e] at hl;simp at hl
    rw [List.getLast?_eq_some_getLast h0] at hl;simp only [Option.some.injEq] at hl;rw [← hl,List.dropLast_concat_getLast]
   split at hr
   ·cases hr
   ·rename_i hc
    split at hr
    ·rename_i ht
     cases hr
     have hp:=h.rise;rw [YD,List.pairwise_append] at hp;refine ⟨?_, ?_,by have:=h.len;rw [YD] at this;simpa using this⟩
     ·rw [List.pairwise_append];refine ⟨hp.1,List.pairwise_singleton _ _,fun a ha b hb=> ?_⟩;simp at hb;subst hb;have:=hp.2.2 a ha x (by simp)
      simp only
      omega
     ·intro m hm;rcases List.mem_append.1 hm with hm | hm
      ·have:=h.fit m (List.dropLast_subset _ hm);omega
      ·simp at hm;subst hm;simp
    ·rename_i ht
     split at hr
     ·cases hr
     ·rename_i Ac
      cases hr
      refine ⟨?_, ?_,by simp;omega⟩
      ·rw [List.pairwise_append];refine ⟨h.rise,List.pairwise_singleton _ _,fun a ha b hb=> ?_⟩;simp at hb;subst hb;have bT:a.2≤x.2:=by
        have hp:=h.rise;rw [YD] at ha hp;rw [List.pairwise_append] at hp;rcases List.mem_append.1 ha with ha | ha
        ·have:=hp.2.2 a ha x (by simp);omega
        ·simp at ha;rw [ha];exact zl
       have:=h.fit a ha;simp only
       omega
      ·intro m hm;rcases List.mem_append.1 hm with hm | hm
       ·have:=h.fit m hm;omega
       ·simp at hm;subst hm;simp
theorem CtI.create {c:Ct} {s k n:Nat} (h:CtI c s k) (hn:1≤n∧n≤32) {r:Nat × Ct × Nat} (hr:c.create n (s+1)=r) (h0:r.1=0):CtI r.2.1 (s+1) k∧r.2.2=c.nv+1∧c.nv < 65535∧r.2.1.times=c.times:=by
 unfold Ct.create at hr
 split at hr
 ·subst hr;cases h0
 ·rename_i hc
  subst hr;have hl:=h.later (t:=s+1) (d:=k) (by omega) zl
  refine ⟨⟨by simp only;omega,hl.ng,hl.nb,hl.fl, ?_, ?_,by simp;omega,hl.groups,hl.gids,hl.glen,hl.books,hl.bids,hl.blen,hl.kept,hl.klen,hl.times⟩,rfl,by omega,rfl⟩
  ·intro x hx;rcases List.mem_append.1 hx with hx | hx
   ·exact (hl.vols x hx).later (Nat.le_succ _) zl
   ·simp at hx;subst hx;exact ⟨⟨by simp,by simp⟩,zl,znr hn⟩
  ·simp only [List.map_append,List.map_cons,List.map_nil];rw [List.pairwise_append];refine ⟨hl.ids,List.pairwise_singleton _ _,fun a ha b hb=> ?_⟩;simp at hb;subst hb;obtain ⟨x,hx,rfl⟩:=List.mem_map.1 ha;have:=(hl.vols x hx).id
   omega
theorem CtI.volsSub {c:Ct} {s k:Nat} (h:CtI c s k) {vs:List Vl} (hv:vs.Sublist c.vols):CtI {c with vols:=vs} s k:=
 ⟨h.nv,h.ng,h.nb,h.fl,fun x hx=> h.vols x (hv.subset hx),h.ids.sublist (hv.map _),zs hv.length_le h.vlen,h.groups,h.gids,h.glen,h.books,h.bids,h.blen,h.kept,h.klen,h.times⟩
theorem CtI.delete {c:Ct} {s k:Nat} (h:CtI c s k) (v:Int):CtI (c.delete v) s k:=h.volsSub List.eraseP_sublist
theorem CtI.volsMap {c:Ct} {s k:Nat} (h:CtI c s k) (f:Vl→Vl) (hf:∀x ∈ c.vols,(f x).id=x.id∧(f x).born=x.born∧SzI (f x).sizes s):CtI {c with vols:=c.vols.map f} s k:=by
 refine ⟨h.nv,h.ng,h.nb,h.fl,fun x hx=> ?_, ?_,by simp;exact h.vlen,h.groups,h.gids,h.glen,h.books,h.bids,h.blen,h.kept,h.klen,h.times⟩
 ·obtain ⟨y,hy,rfl⟩:=List.mem_map.1 hx;obtain ⟨h1,h2,h3⟩:=hf y hy;have:=h.vols y hy;exact ⟨by rw [h1];exact this.id,by rw [h2];exact this.born,h3⟩
 ·have:(c.vols.map f).map (·.id)=c.vols.map (·.id):=by
   rw [List.map_map];exact List.map_congr_left fun x hx=> (hf x hx).1
  show ((c.vols.map f).map (·.id)).Pairwise (· < ·)
  rw [this];exact h.ids
theorem CtI.resize {c:Ct} {s k:Nat} (h:CtI c s k) (v:Int) {l:List Mk} (hl:SzI l s):CtI (c.resize v l) s k:=h.volsMap _ fun x hx=> by
 split
 ·exact ⟨rfl,rfl,hl⟩
 ·exact ⟨rfl,rfl,(h.vols x hx).sizes⟩
theorem CtI.gbSub {c:Ct} {s k:Nat} (h:CtI c s k) {gs:List Gp} {bs:List Bk} (hg:(gs.map (·.id)).Sublist (c.groups.map (·.id))) (hb:(bs.map (·.id)).Sublist (c.books.map (·.id))) (Cy:∀x ∈ gs,x.id≤c.ng∧MsI x.ms) (Ae:∀x ∈ bs,x.id≤c.nb∧x.seq≤s∧MsI x.ms):CtI {c with groups:=gs,books:=bs} s k:=
 ⟨h.nv,h.ng,h.nb,h.fl,h.vols,h.ids,h.vlen,Cy,h.gids.sublist hg,by have:=hg.length_le;simp at this;exact zs this h.glen,Ae,h.bids.sublist hb,by have:=hb.length_le;simp at this;exact zs this h.blen,h.kept,h.klen,h.times⟩
theorem CtI.ungroup {c:Ct} {s k:Nat} (h:CtI c s k) (i:Int):CtI (c.ungroup i) s k:=
 h.gbSub (bs:=c.books) (List.eraseP_sublist.map _) (List.Sublist.refl _) (fun x hx=> h.groups x (List.eraseP_sublist.subset hx)) h.books
theorem CtI.unmark {c:Ct} {s k:Nat} (h:CtI c s k) (i:Int):CtI (c.unmark i) s k:=
 h.gbSub (gs:=c.groups) (List.Sublist.refl _) (List.eraseP_sublist.map _) h.groups (fun x hx=> h.books x (List.eraseP_sublist.subset hx))
theorem MsI.filter {l:List Int} (h:MsI l) (p:Int→Bool):MsI (l.filter p):=⟨fun m hm=> h.fit m (List.mem_filter.1 hm).1,zs (List.length_filter_le _ _) h.len⟩
theorem zaN {α:Type} (id:α→Nat) (f:α→Option α) (hf:∀x y,f x=some y→id y=id x):∀l:List α,((l.filterMap f).map id).Sublist (l.map id)
 | []=> List.Sublist.slnil
 | x::l=> by
   rw [List.filterMap_cons]
   cases h:f x with
   | none=> exact (zaN id f hf l).cons _
   | some y=> simp only [List.map_cons];rw [hf x y h];exact (zaN id f hf l).cons_cons _
theorem CtI.forget {c:Ct} {s k:Nat} (h:CtI c s k) (v:Int):CtI (c.forget v) s k:=by
 refine h.gbSub (zaN _ _ (fun x y B8=> ?_) _) (zaN _ _ (fun x y B8=> ?_) _) (fun x hx=> ?_) (fun x hx=> ?_)
 ·simp only at B8
  split at B8
  ·cases B8
  ·cases B8;rfl
 ·simp only at B8
  split at B8
  ·cases B8
  ·cases B8;rfl
 ·obtain ⟨g,hg,he⟩:=List.mem_filterMap.1 hx;simp only at he
  split at he
  ·cases he
  ·cases he
   exact ⟨(h.groups g hg).1,(h.groups g hg).2.filter _⟩
 ·obtain ⟨g,hg,he⟩:=List.mem_filterMap.1 hx;simp only at he
  split at he
  ·cases he
  ·cases he
   exact ⟨(h.books g hg).1,(h.books g hg).2.1,(h.books g hg).2.2.filter _⟩
theorem CtI.add {c:Ct} {s k:Nat} (h:CtI c s k) {ms:List Int} (hm:MsI ms) {r:Nat × Ct × Nat} (hr:c.add ms=r) (h0:r.1=0):CtI r.2.1 s k∧r.2.1.times=c.times:=by
 unfold Ct.add at hr
 split at hr
 ·subst hr;cases h0
 ·split at hr
  ·subst hr;cases h0
  ·subst hr;refine ⟨⟨h.nv,by simp only;omega,h.nb,h.fl,h.vols,h.ids,h.vlen, ?_, ?_,by simp;omega,h.books,h.bids,h.blen,h.kept,h.klen,h.times⟩,rfl⟩
   ·intro x hx;rcases List.mem_append.1 hx with hx | hx
    ·have:=h.groups x hx;exact ⟨by simp only;omega,this.2⟩
    ·simp at hx;subst hx;exact ⟨zl,hm⟩
   ·simp only [List.map_append,List.map_cons,List.map_nil];rw [List.pairwise_append];refine ⟨h.gids,List.pairwise_singleton _ _,fun a ha b hb=> ?_⟩;simp at hb;subst hb;obtain ⟨x,hx,rfl⟩:=List.mem_map.1 ha;have:=(h.groups x hx).1
    omega
theorem CtI.mark {c:Ct} {s k:Nat} (h:CtI c s k) (i:Int) {r:Nat × Ct × Nat} (hr:c.mark i (s+1)=r) (h0:r.1=0):CtI r.2.1 (s+1) k∧r.2.1.times=c.times:=by
 unfold Ct.mark at hr
 cases hg:c.group i with
 | none=> rw [hg] at hr;subst hr;cases h0
 | some g=>
   rw [hg] at hr;simp only at hr
   split at hr
   ·subst hr;cases h0
   ·subst hr;have Vk:g ∈ c.groups:=List.mem_of_find?_eq_some hg;have hl:=h.later (t:=s+1) (d:=k) (by omega) zl
    refine ⟨⟨hl.nv,hl.ng,by simp only;omega,hl.fl,hl.vols,hl.ids,hl.vlen,hl.groups,hl.gids,hl.glen, ?_, ?_,by simp;omega,hl.kept,hl.klen,hl.times⟩,rfl⟩
    ·intro x hx;rcases List.mem_append.1 hx with hx | hx
     ·have:=hl.books x hx;exact ⟨by simp only;omega,this.2⟩
     ·simp at hx;subst hx;exact ⟨zl,zl,(h.groups g Vk).2⟩
    ·simp only [List.map_append,List.map_cons,List.map_nil];rw [List.pairwise_append];refine ⟨hl.bids,List.pairwise_singleton _ _,fun a ha b hb=> ?_⟩;simp at hb;subst hb;obtain ⟨x,hx,rfl⟩:=List.mem_map.1 ha;have:=(h.books x hx).1
     omega
theorem zkn {l:List Mk} {t s:Nat} (h:zjz l t=some s):∃m ∈ l,m.1=s∧m.2≤t:=by
 unfold zjz at h
 cases hl:(l.filter fun m=> decide (m.2≤t)).getLast? with
 | none=> rw [hl] at h;cases h
 | some x=>
   rw [hl] at h;simp at h;obtain ⟨h1,h2⟩:=List.mem_filter.1 (zdQ hl);exact ⟨x,h1,h,of_decide_eq_true h2⟩
theorem Ct.floor_le {c:Ct} {s k:Nat} (h:CtI c s k) (now window:Nat):c.fl≤c.floor now window∧c.floor now window≤s:=by
 have hf:=h.fl;unfold Ct.floor
 split
 ·omega
 ·cases hl:zjz c.times (now - window) with
  | none=> simp only;omega
  | some x=>
    obtain ⟨m,hm,h1,-⟩:=zkn hl;have:=(h.times.fit m hm).1;simp only
    omega
theorem zh3 {every lo:Nat}:∀{f n x:Nat},x ∈ zcZ every lo f n→lo≤x∧x≤n
 | 0,_,_,h=> by simp [zcZ] at h
 | f +1,n,x,h=> by
   unfold zcZ at h
   split at h
   ·cases h
   ·split at h
    ·simp at h;omega
    ·rcases List.mem_cons.1 h with rfl | h
     ·omega
     ·have:=zh3 h;omega
theorem Ct.keep_mem {c:Ct} {fl every x:Nat} (h:x ∈ c.keep fl every):x ∈ c.kept∨(c.fl≤x∧x < fl):=by
 unfold Ct.keep at h;simp only at h;have h:=List.mem_of_mem_drop h;rcases List.mem_append.1 h with h | h
 ·exact .inl h
 ·rw [List.mem_reverse] at h
  split at h
  ·cases h
  ·rename_i hc
   have h1:=zh3 h;have h2:(fl - 1) / every * every≤fl - 1:=Nat.div_mul_le_self _ _;exact .inr ⟨h1.1,by omega⟩
theorem Ct.keep_len (c:Ct) (fl every:Nat):(c.keep fl every).length≤32:=by
 unfold Ct.keep;simp only [List.length_drop]
 omega
theorem CtI.retain {c:Ct} {s k:Nat} (h:CtI c s k) (now window every:Nat):CtI (c.retain now window every) s k:=by
 have hf:=Ct.floor_le h now window;unfold Ct.retain;simp only;have h1:CtI {c with fl:=c.floor now window,kept:=c.keep (c.floor now window) every,times:=zaZ ({c with fl:=c.floor now window,kept:=c.keep (c.floor now window) every}:Ct).allL (c.floor now window) c.times} s k:=
  ⟨h.nv,h.ng,h.nb,hf.2,h.vols,h.ids,h.vlen,h.groups,h.gids,h.glen,h.books,h.bids,h.blen,fun x hx=> by
   rcases Ct.keep_mem hx with h2 | h2
   ·exact h.kept x h2
   ·omega,Ct.keep_len _ _ _,⟨h.times.rise.filter _,fun m hm=> h.times.fit m (List.mem_filter.1 hm).1,zs (List.length_filter_le _ _) h.times.len⟩⟩
 exact h1.volsMap _ fun x hx=> ⟨rfl,rfl,zlI (h.vols x hx).sizes _ _⟩
theorem Ct.sizeAt_fit {c:Ct} {s k:Nat} (h:CtI c s k) {v:Int} {t last n:Nat} (hs:c.sizeAt v t last=(0,n)):1≤n∧n≤32:=by
 unfold Ct.sizeAt at hs
 cases hf:c.find v with
 | none=> rw [hf] at hs;cases hs
 | some x=>
   rw [hf] at hs;simp only at hs;have hx:=(h.vols x (List.mem_of_find?_eq_some hf)).sizes
   cases hz:zdD x.sizes t with
   | none=> rw [hz] at hs;cases hs
   | some m=>
     rw [hz] at hs;simp only at hs
     split at hs
     ·cases hs
      unfold zdD at hz
      cases hl:(x.sizes.filter fun m=> decide (m.1≤t)).getLast? with
      | none=> rw [hl] at hz;cases hz
      | some y=>
        rw [hl] at hz;simp at hz;have:=(hx.fit y (List.mem_filter.1 (zdQ hl)).1).2
        omega
     ·cases hs
theorem zbR {l:List Mk} {s:Nat} (h:SzI l s):1≤zas l∧zas l≤32:=by
 unfold zas
 cases hl:l.getLast? with
 | none=> exact absurd (List.getLast?_eq_none_iff.1 hl) h.some
 | some x=>
   have:=(h.fit x (zdQ hl)).2
   simpa using this
theorem zib:∀{l:List Int} {a:Int},zbU a l=true→∀m ∈ l,a < m∧m≤65535
 | [],_,_,m,hm=> by cases hm
 | x::l,a,h,m,hm=> by
   unfold zbU at h;simp only [Bool.and_eq_true,decide_eq_true_eq] at h;rcases List.mem_cons.1 hm with rfl | hm
   ·exact ⟨h.1.1,h.1.2⟩
   ·have:=zib h.2 m hm;omega
theorem MsI.of {l:List Int} (h:zfT l=true):MsI l:=by
 unfold zfT at h;simp only [Bool.and_eq_true,decide_eq_true_eq] at h;exact ⟨fun m hm=> by have:=zib h.1 m hm;omega,h.2.2⟩
theorem za0 {c:Ct} {v:Int} {x:Vl} (h:c.find v=some x):x ∈ c.vols∧(x.id:Int)=v:=by
 unfold Ct.find at h;exact ⟨List.mem_of_find?_eq_some h,by have:=List.find?_some h;simpa using this⟩
structure PoR (o:PO):Prop where
 kind:1≤o.k∧o.k≤14
 vol:o.k=2∨o.k=3∨o.k=4∨o.k=5∨o.k=10∨o.k=11∨o.k=12∨o.k=13→1≤o.v∧o.v≤65535
 num:o.k=7∨o.k=8∨o.k=9∨o.k=12→1≤o.i∧o.i≤65535
 place:o.k=4∨o.k=5→0≤o.b∧o.b≤31
 count:o.k=1∨o.k=3∨o.k=5→1≤o.n∧o.n≤32
 data:o.k=4→1≤o.d.length∧o.d.length≤64
 mem:o.k=6→zfT o.m=true
theorem PoR.of {o:PO} (hk:1≤o.k∧o.k≤14) (h:o.right=true):PoR o:=by
 have h3:o.k=1∨o.k=2∨o.k=3∨o.k=4∨o.k=5∨o.k=6∨o.k=7∨o.k=8∨o.k=9∨o.k=10∨o.k=11∨o.k=12∨o.k=13∨o.k=14:=by omega
 unfold PO.right zeC at h;rw [Bool.and_eq_true] at h;have h2:=h.2;rcases h3 with e | e | e | e | e | e | e | e | e | e | e | e | e | e
 all_goals
  rw [e] at h2;refine ⟨hk,fun h=> ?_,fun h=> ?_,fun h=> ?_,fun h=> ?_,fun h=> ?_,fun h=> ?_⟩ <;> first
   | (exfalso;omega)
   | (simp [zh1,zpW,znF,zfv,zfu,zj7] at h2;omega)
   | (simpa [zh1,zpW] using h2)
structure zfJ (l:List En) (g:Chg) (s k:Nat):Prop where
 c:CtI g.c s k
 seq:g.seq=s
 vol:g.vol≤65535
 drop:g.drop≤65535
 blk:∀p ∈ g.puts,p.b < 32
 len:g.puts.length≤32
 nodup:(g.puts.map (·.b)).Nodup
 held:∀p ∈ g.puts,p.d=none→p.a=0∨∃e ∈ l,e.2=p.a
 data:∀p ∈ g.puts,∀d,p.d=some d→d.length=64∧g.puts= [p]
theorem zeO (l:List En) (v b s:Nat):atL l v b s=0∨∃e ∈ l,e.2=atL l v b s:=by
 unfold atL
 cases hf:zb2 l (za9 v b s) with
 | none=> exact .inl rfl
 | some e=>
   simp only
   split
   ·exact .inr ⟨e,(List.mem_filter.1 (zdQ hf)).1,rfl⟩
   ·exact .inl rfl
theorem zfJ.plain {l:List En} {g:Chg} {s k:Nat} (h:CtI g.c s k) (hs:g.seq=s) (hv:g.vol≤65535) (hd:g.drop≤65535) (hp:g.puts= []):zfJ l g s k:=
 ⟨h,hs,hv,hd,by rw [hp];simp,by rw [hp];simp,by rw [hp];simp,by rw [hp];simp,by rw [hp];simp⟩
theorem zfJ.puts {l:List En} {g:Chg} {s k:Nat} (h:CtI g.c s k) (hs:g.seq=s) (hv:g.vol≤65535) (hd:g.drop≤65535) {a n:Nat} {f:Nat→Bool} {q:Nat→Nat} (hp:g.puts=((List.range' a n).filter f).map fun b=> ⟨b,q b,none⟩) (hq:∀b,q b=0∨∃e ∈ l,e.2=q b) (hn:n=0∨a+n≤32):zfJ l g s k:=by
 have hb:∀p ∈ g.puts,p.b < 32∧p.d=none∧p.a=q p.b:=fun p h=> by
  rw [hp] at h;obtain ⟨b,hb,rfl⟩:=List.mem_map.1 h;have:=List.mem_range'_1.1 (List.mem_filter.1 hb).1;exact ⟨by simp only;omega,rfl,rfl⟩
 refine ⟨h,hs,hv,hd,fun p h=> (hb p h).1, ?_, ?_,fun p h _=> by rw [(hb p h).2.2];exact hq _,fun p h d hd=> by rw [(hb p h).2.1] at hd;cases hd⟩
 ·rw [hp,List.length_map];have:=List.length_filter_le f (List.range' a n);rw [List.length_range'] at this
  omega
 ·rw [hp,List.map_map];have:((List.range' a n).filter f).map ((fun p:Pu=> p.b) ∘ fun b=> (⟨b,q b,none⟩:Pu))=(List.range' a n).filter f:=by
   rw [show ((fun p:Pu=> p.b) ∘ fun b=> (⟨b,q b,none⟩:Pu))=id from rfl,List.map_id]
  rw [this];exact List.Nodup.sublist List.filter_sublist List.nodup_range'
theorem zhP {window every:Nat} {c:Ct} {l:List En} {s clock:Nat} {o:PO} (h:CtI c s clock) (ho:PoR o) {g:Chg} (hg:zV window every c l (s+1) clock o=(0,g)):
 zfJ l g (s+1) clock∧TmI g.c.times s clock:=by
 have hl:=h.later (t:=s+1) (d:=clock) (by omega) zl
 unfold zV at hg
 split at hg
 ·unfold zb1 at hg;simp only at hg;have hn:=ho.count (by omega)
  obtain ⟨h1,h2⟩:=Prod.mk.inj hg;obtain ⟨q1,q2,q3,q4⟩:=h.create (n:=o.n.toNat) (by omega) rfl h1
  subst h2;exact ⟨zfJ.plain q1 rfl (by simp [Chg.nil]) (by simp [Chg.nil]) rfl,by simp only;rw [q4];exact h.times⟩
 split at hg
 ·have hv:=ho.vol (by omega)
  unfold zbh at hg
  split at hg
  ·cases hg
  ·cases hg
   exact ⟨zfJ.plain ((hl.delete _).forget _) rfl (by simp [Chg.nil]) (by simp only;omega) rfl,h.times⟩
 split at hg
 ·have hv:=ho.vol (by omega)
  have hn:=ho.count (by omega)
  unfold za6 at hg
  cases hf:c.find o.v with
  | none=> rw [hf] at hg;cases hg
  | some x=>
    rw [hf] at hg;have hx:=(h.vols x (za0 hf).1).sizes;simp only at hg
    split at hg
    ·rename_i h0
     have:=(Prod.mk.inj hg).1;exact absurd this h0
    ·rename_i h0
     cases hg
     have h0:(zbf x.sizes (s+1) o.n.toNat).1=0:=by omega
     have hw:=zbR hx;refine ⟨zfJ.puts (hl.resize _ (zik hx (n:=o.n.toNat) (by omega) (Prod.ext h0 rfl))) rfl (by simp only;omega) (by simp [Chg.nil]) (a:=o.n.toNat) (n:=zas x.sizes - o.n.toNat) (q:=fun _=> 0) rfl (fun b=> .inl rfl) (by omega),h.times⟩
 split at hg
 ·have hv:=ho.vol (by omega)
  have hb:=ho.place (by omega)
  unfold zaz at hg
  cases hf:c.find o.v with
  | none=> rw [hf] at hg;cases hg
  | some x=>
    rw [hf] at hg;have hx:=(h.vols x (za0 hf).1).sizes;have hw:=zbR hx;simp only at hg
    split at hg
    ·split at hg
     ·cases hg
     ·cases hg
      refine ⟨zfJ.puts hl rfl (by simp only;omega) (by simp [Chg.nil]) (a:=o.b.toNat) (n:=o.n.toNat) (q:=fun _=> 0) rfl (fun b=> .inl rfl) (by omega),h.times⟩
    ·split at hg
     ·cases hg
     ·cases hg
      refine ⟨⟨hl,rfl,by simp only;omega,by simp [Chg.nil], ?_,by simp,by simp, ?_, ?_⟩,h.times⟩
      ·intro p hp;simp at hp;subst hp;simp only;omega
      ·intro p hp hd;simp at hp;subst hp
       cases hd
      ·intro p hp d hd;simp at hp;subst hp
       cases hd
       exact ⟨zaK _,rfl⟩
 split at hg
 ·unfold zaU at hg;obtain ⟨h1,h2⟩:=Prod.mk.inj hg;obtain ⟨q1,q2⟩:=hl.add (MsI.of (ho.mem (by omega))) rfl h1
  subst h2;exact ⟨zfJ.plain q1 rfl (by simp [Chg.nil]) (by simp [Chg.nil]) rfl,by simp only;rw [q2];exact h.times⟩
 split at hg
 ·split at hg
  ·cases hg
  ·cases hg
   exact ⟨zfJ.plain (hl.ungroup _) rfl (by simp [Chg.nil]) (by simp [Chg.nil]) rfl,h.times⟩
 split at hg
 ·unfold zaU at hg;obtain ⟨h1,h2⟩:=Prod.mk.inj hg;obtain ⟨q1,q2⟩:=h.mark o.i rfl h1;subst h2;exact ⟨zfJ.plain q1 rfl (by simp [Chg.nil]) (by simp [Chg.nil]) rfl,by simp only;rw [q2];exact h.times⟩
 split at hg
 ·split at hg
  ·cases hg
  ·cases hg
   exact ⟨zfJ.plain (hl.unmark _) rfl (by simp [Chg.nil]) (by simp [Chg.nil]) rfl,h.times⟩
 split at hg
 ·have hv:=ho.vol (by omega)
  unfold zcW at hg;simp only at hg
  split at hg
  ·rename_i h0
   exact absurd (Prod.mk.inj hg).1 h0
  ·rename_i h0
   have h0:(c.sizeAt o.v o.pt.toNat (s+1 - 1)).1=0:=by omega
   have hz:1≤(c.sizeAt o.v o.pt.toNat (s+1 - 1)).2∧(c.sizeAt o.v o.pt.toNat (s+1 - 1)).2≤32:=Ct.sizeAt_fit h (v:=o.v) (t:=o.pt.toNat) (last:=s+1 - 1) (Prod.ext h0 rfl)
   cases hf:c.find o.v with
   | none=> rw [hf] at hg;cases hg
   | some x=>
     rw [hf] at hg;have hx:=(h.vols x (za0 hf).1).sizes;have hw:=zbR hx;simp only at hg;obtain ⟨h1,h2⟩:=Prod.mk.inj hg;subst h2;refine ⟨zfJ.puts (hl.resize _ (zik hx hz (Prod.ext h1 rfl))) rfl (by simp only;omega) (by simp [Chg.nil]) (a:=0) (n:=max (c.sizeAt o.v o.pt.toNat (s+1 - 1)).2 (zas x.sizes)) (f:=fun b=> decide (zeN l o.v.toNat o.pt.toNat (c.sizeAt o.v o.pt.toNat (s+1 - 1)).2 b≠atL l o.v.toNat b (s+1 - 1))) (q:=zeN l o.v.toNat o.pt.toNat (c.sizeAt o.v o.pt.toNat (s+1 - 1)).2) (by simp only [zbw,List.range_eq_range']) (fun b=> ?_) (by omega),h.times⟩
     unfold zeN
     split
     ·exact zeO _ _ _ _
     ·exact .inl rfl
 split at hg
 ·cases hg
  exact ⟨zfJ.plain (hl.retain _ _ _) rfl (by simp [Chg.nil]) (by simp [Chg.nil]) rfl,h.times.rise.filter _,fun m hm=> h.times.fit m (List.mem_filter.1 hm).1,zs (List.length_filter_le _ _) h.times.len⟩
 ·have hv:1≤o.v∧o.v≤65535:=ho.vol (by have:=ho.kind;omega)
  unfold zcO at hg;simp only at hg
  split at hg
  ·rename_i h0;exact absurd (Prod.mk.inj hg).1 h0
  ·split at hg
   ·rename_i h0;exact absurd (Prod.mk.inj hg).1 h0
   ·rename_i _ h0
    have h0:(c.sizeAt o.v (zav c o).2 (s+1 - 1)).1=0:=by omega
    have hz:1≤(c.sizeAt o.v (zav c o).2 (s+1 - 1)).2∧(c.sizeAt o.v (zav c o).2 (s+1 - 1)).2≤32:=Ct.sizeAt_fit h (v:=o.v) (t:=(zav c o).2) (last:=s+1 - 1) (Prod.ext h0 rfl);obtain ⟨h1,h2⟩:=Prod.mk.inj hg;obtain ⟨q1,q2,q3,q4⟩:=h.create (n:=(c.sizeAt o.v (zav c o).2 (s+1 - 1)).2) hz rfl h1;subst h2;refine ⟨zfJ.puts q1 rfl (by simp only;omega) (by simp [Chg.nil]) (a:=0) (n:=(c.sizeAt o.v (zav c o).2 (s+1 - 1)).2) (f:=fun b=> decide (atL l o.v.toNat b (zav c o).2≠0)) (q:=fun b=> atL l o.v.toNat b (zav c o).2) (by simp only [zcG,List.range_eq_range']) (fun b=> zeO _ _ _ _) (by omega),by simp only;rw [q4];exact h.times⟩
theorem zem {window every:Nat} {c:Ct} {l:List En} {s clock:Nat} {o:PO} (h:CtI c s clock) {g:Chg} (hg:zc9 window every c l s clock o=(0,g)):PoR o∧s≠18446744073709551615∧zfJ l g (s+1) clock:=by
 unfold zc9 at hg
 split at hg
 ·cases hg
 ·rename_i hk
  split at hg
  ·cases hg
  ·rename_i hs
   have ho:PoR o:=PoR.of (by omega) (by
        cases hr:o.right with
        | true=> rfl
        | false=> exact absurd (.inr hr) hk)
   simp only at hg
   split at hg
   ·rename_i h0;exact absurd (Prod.mk.inj hg).1 h0
   ·rename_i h0
    have h0:(zV window every c l (s+1) clock o).1=0:=by omega
    obtain ⟨q1,q2⟩:=zhP h ho (Prod.ext h0 rfl:zV window every c l (s+1) clock o=(0,(zV window every c l (s+1) clock o).2))
    split at hg
    ·rename_i h1;exact absurd (Prod.mk.inj hg).1 h1
    ·rename_i h1
     have h1:(za7 (zV window every c l (s+1) clock o).2.c.times (s+1) clock).1=0:=by omega
     have h2:=(Prod.mk.inj hg).2;subst h2;have ht:=zlN q2 (Prod.ext h1 rfl);have hc:=q1.c;exact ⟨ho,hs,⟨⟨hc.nv,hc.ng,hc.nb,hc.fl,hc.vols,hc.ids,hc.vlen,hc.groups,hc.gids,hc.glen,hc.books,hc.bids,hc.blen,hc.kept,hc.klen,ht⟩,q1.seq,q1.vol,q1.drop,q1.blk,q1.len,q1.nodup,q1.held,q1.data⟩⟩
end
section
structure PS where
 c:Ct
 l:List En
 bl:Nat→List UInt8
 seq:Nat
 clock:Nat
def zbX (bl:Nat→List UInt8) (a:Nat):List UInt8:=if a=0 then List.replicate 64 0 else bl a
def zly (st:PS) (v b:Int):Nat × List UInt8:=match st.c.find v with
 | none=> (40, [])
 | some x=> if b < 0∨(zas x.sizes:Int)≤b then (41, []) else (0,zbX st.bl (atL st.l v.toNat b.toNat st.seq))
def blP (bl:Nat→List UInt8) (x:Nat):List Pu→Nat→List UInt8
 | [],a=> bl a
 | p::ps,a=> match p.d with
   | none=> blP bl x ps a
   | some d=> if a=x then d else bl a
def zcJ (st:PS) (g:Chg) (x:Nat):PS:={st with c:=g.c,l:=zch g x st.l,bl:=blP st.bl x g.puts,seq:=g.seq}
theorem zdv {α:Type} (f g:α→Bool) (l:List α):(l.filter f).filter g=l.filter fun x=> f x && g x:=by
 rw [List.filter_filter];exact List.filter_congr fun x _=> Bool.and_comm _ _
theorem zc3 {c:Ct}:∀(vs:List Vl) {l:List En} (_:zac l),∃f,zaO c vs l=l.filter f
 | [],l,_=> ⟨fun _=> true,(List.filter_eq_self.2 fun _ _=> rfl).symm⟩
 | v::vs,l,hr=> by
   have e1:zao l (zcQ l v.id (c.ofL v.id) c.fl)=l.filter fun x=> !zkY l v.id (c.ofL v.id) c.fl x:=by rw [zmx hr,zcu hr]
   obtain ⟨f,hf⟩:=zc3 (c:=c) vs (l:=l.filter fun x=> !zkY l v.id (c.ofL v.id) c.fl x) (hr.filter _);refine ⟨fun x=> (!zkY l v.id (c.ofL v.id) c.fl x) && f x, ?_⟩;unfold zaO at *;rw [List.foldl_cons,e1,hf,zdv]
theorem zfy {v s x:Nat}:∀(ps:List Pu) {l:List En} (_:zac l),zac (zaP l v s x ps)
 | [],_,hr=> hr
 | _::ps,_,hr=> zfy ps (zc8 hr)
theorem zcp {g:Chg} {x:Nat} {l:List En} (hr:zac l):∃f,zch g x l=(zaP l g.vol g.seq x g.puts).filter f:=by
 have h2:=zfy (v:=g.vol) (s:=g.seq) (x:=x) g.puts hr;unfold zch;have h3:∃f,(if g.drop=0 then zaP l g.vol g.seq x g.puts else zao (zaP l g.vol g.seq x g.puts) (zdE (zaP l g.vol g.seq x g.puts) g.drop))=(zaP l g.vol g.seq x g.puts).filter f:=by
  split
  ·exact ⟨fun _=> true,(List.filter_eq_self.2 fun _ _=> rfl).symm⟩
  ·exact ⟨_,by unfold zdE;rw [zcu h2]⟩
 obtain ⟨f,hf⟩:=h3;simp only;rw [hf]
 split
 ·obtain ⟨f',Vi⟩:=zc3 (c:=g.c) g.c.vols (h2.filter f);exact ⟨_,by rw [Vi,zdv]⟩
 ·exact ⟨f,rfl⟩
def puA (x:Nat) (p:Pu):Nat:=match p.d with
 | none=> p.a
 | some _=> x
theorem zei (l:List En) (v s x:Nat) (p:Pu) (ps:List Pu):zaP l v s x (p::ps)=zaP (zaR l (za9 v p.b s,puA x p)) v s x ps:=rfl
theorem zeY {v s x:Nat}:∀(ps:List Pu) {l:List En} {e:En},e ∈ zaP l v s x ps→e ∈ l∨∃p ∈ ps,e=(za9 v p.b s,puA x p)
 | [],_,_,h=> .inl h
 | p::ps,l,e,h=> by
   rw [zei] at h;rcases zeY ps h with h | ⟨q,hq,rfl⟩
   ·rcases zdX h with rfl | h
    ·exact .inr ⟨p,List.mem_cons_self,rfl⟩
    ·exact .inl h
   ·exact .inr ⟨q,List.mem_cons_of_mem _ hq,rfl⟩
theorem zeX {v s x:Nat}:∀(ps:List Pu) {l:List En} (_:zac l),(zaP l v s x ps).length≤l.length+ps.length
 | [],_,_=> zl
 | p::ps,l,hr=> by
   rw [zei];have h1:=zeX (v:=v) (s:=s) (x:=x) ps (zc8 (e:=(za9 v p.b s,puA x p)) hr);have h2:=zeZ l (za9 v p.b s,puA x p) hr;have h3:(if (zdi l (za9 v p.b s)).isSome then 0 else 1)≤1:=by split <;> omega
   simp only at h2;rw [List.length_cons]
   omega
theorem zku {g:Chg} {x:Nat} {l:List En} (hr:zac l):zac (zch g x l):=by
 obtain ⟨f,hf⟩:=zcp (g:=g) (x:=x) hr;rw [hf];exact (zfy g.puts hr).filter f
theorem zhv {g:Chg} {x:Nat} {l:List En} (hr:zac l) {e:En} (he:e ∈ zch g x l):e ∈ l∨∃p ∈ g.puts,e=(za9 g.vol p.b g.seq,puA x p):=by
 obtain ⟨f,hf⟩:=zcp (g:=g) (x:=x) hr;rw [hf] at he;exact zeY _ (List.mem_filter.1 he).1
theorem zlZ {g:Chg} {x:Nat} {l:List En} (hr:zac l):(zch g x l).length≤l.length+g.puts.length:=by
 obtain ⟨f,hf⟩:=zcp (g:=g) (x:=x) hr;rw [hf];exact zs (List.length_filter_le _ _) (zeX _ hr)
theorem zg7 {l:List En} {g:Chg} {s k x:Nat} (h:zfJ l g s k) {p:Pu} (hp:p ∈ g.puts):puA x p=0∨(∃e ∈ l,e.2=puA x p)∨puA x p=x:=by
 unfold puA
 cases hd:p.d with
 | none=>
   rcases h.held p hp hd with h0 | h0
   ·exact .inl h0
   ·exact .inr (.inl h0)
 | some d=> exact .inr (.inr rfl)
structure StI (nb:Nat) (st:PS) (k:Nat):Prop where
 ct:CtI st.c st.seq st.clock
 rise:zac st.l
 seq:st.seq < 18446744073709551616
 clock:st.clock < 18446744073709551616
 keys:∀e ∈ st.l,zp e.1≤st.seq∧zo e.1 < 32∧zj e.1≤65535∧e.2≤nb
 len:st.l.length≤32 * k
 used:∃U:List Nat,U.length≤k∧∀e ∈ st.l,e.2=0∨e.2 ∈ U
theorem StI.fit {nb:Nat} {st:PS} {k:Nat} (h:StI nb st k) (hn:nb < 4294967296):Fit st.l:=fun x hx=> by
 have h1:=h.keys x hx;have h2:=zcc x.1;have h3:=zec x.1;have h4:=zmG x.1;unfold za9 at h2
 omega
def zcn (nb:Nat) (l:List En) (x:Nat):Prop:=0 < x∧x≤nb∧∀e ∈ l,e.2≠x
theorem zhu {nb k x:Nat} {st:PS} {g:Chg} (h:StI nb st k) (hs:st.seq≠18446744073709551615) (hg:zfJ st.l g (st.seq+1) st.clock) (hx:x≤nb):StI nb (zcJ st g x) (k+1):=by
 have h1:=h.seq;refine ⟨by have:=hg.c;rw [← hg.seq] at this;exact this,zku h.rise,by have:=hg.seq;show g.seq < _;omega,h.clock,fun e he=> ?_, ?_, ?_⟩
 ·rcases zhv h.rise he with he | ⟨p,hp,rfl⟩
  ·have h8:=h.keys e he;have h9:=hg.seq;refine ⟨?_,h8.2⟩
   show zp e.1≤g.seq
   omega
  ·have h2:=hg.blk p hp;have h3:=hg.seq;have h4:=hg.vol;refine ⟨?_, ?_, ?_, ?_⟩
   ·show zp (za9 g.vol p.b g.seq)≤g.seq
    rw [zdm (by omega)];exact zl
   ·show zo (za9 g.vol p.b g.seq) < 32
    rw [zdl (by omega) (by omega)];exact h2
   ·show zj (za9 g.vol p.b g.seq)≤65535
    rw [zeV (by omega) (by omega)];exact h4
   ·show puA x p≤nb
    rcases zg7 (x:=x) hg hp with h5 | ⟨e,he,h5⟩ | h5
    ·omega
    ·have:=(h.keys e he).2.2.2;omega
    ·omega
 ·have:=zlZ (g:=g) (x:=x) h.rise;have:=hg.len;have:=h.len
  show (zch g x st.l).length≤_
  omega
 ·obtain ⟨U,hU,hm⟩:=h.used;refine ⟨x::U,by simp;omega,fun e he=> ?_⟩
  rcases zhv h.rise he with he | ⟨p,hp,rfl⟩
  ·rcases hm e he with h0 | h0
   ·exact .inl h0
   ·exact .inr (List.mem_cons_of_mem _ h0)
  ·show puA x p=0∨puA x p ∈ _
   rcases zg7 (x:=x) hg hp with h5 | ⟨e,he,h5⟩ | h5
   ·exact .inl h5
   ·rw [← h5];rcases hm e he with h0 | h0
    ·exact .inl h0
    ·exact .inr (List.mem_cons_of_mem _ h0)
   ·exact .inr (by rw [h5];exact List.mem_cons_self)
theorem zlW:∀(n:Nat) (U:List Nat),(∀x,0 < x∧x≤n→x ∈ U)→n≤U.length
 | 0,_,_=> Nat.zero_le _
 | n+1,U,h=> by
   have h1:=h (n+1) (by omega)
   have h2:=zlW n (U.erase (n+1)) fun x hx=> (List.mem_erase_of_ne (by omega)).2 (h x (by omega))
   rw [List.length_erase_of_mem h1] at h2;have:=List.length_pos_of_mem h1
   omega
theorem zhS {nb k:Nat} {st:PS} (h:StI nb st k) (hk:k < nb):∃x,zcn nb st.l x:=by
 obtain ⟨U,hU,hm⟩:=h.used;have:∃x ∈ List.range' 1 nb,x ∉ U:=by
  refine Classical.byContradiction fun hc=> ?_;have AP:∀x ∈ List.range' 1 nb,x ∈ U:=fun x hx=> Classical.byContradiction fun hu=> hc ⟨x,hx,hu⟩;have h1:=zlW nb U fun x hx=> AP x (List.mem_range'_1.2 (by omega))
  omega
 obtain ⟨x,hx,hu⟩:=this;rw [List.mem_range'_1] at hx;refine ⟨x,by omega,by omega,fun e he e2=> ?_⟩
 rcases hm e he with h0 | h0
 ·omega
 ·exact hu (by rw [← e2];exact h0)
theorem zjJ {bl:Nat→List UInt8} {x a:Nat} (h:a≠x):∀ps,blP bl x ps a=bl a
 | []=> rfl
 | p::ps=> by
   unfold blP
   cases p.d with
   | none=> exact zjJ h ps
   | some d=> simp only;rw [if_neg h]
end
section
theorem zqt {l:List En} (hr:zac l) {s t:Nat} (hl:∀e ∈ l,zp e.1≤s) (AO:s≤t) (v b:Nat) (hb:b < 4294967296) (ht:t < 18446744073709551616):atL l v b t=atL l v b s:=by
 rw [zde hr v b t hb ht,zde hr v b s hb (by omega)]
 have:l.filter (pAt v b t)=l.filter (pAt v b s):=List.filter_congr fun x hx=> by
  unfold pAt;have:=hl x hx;rw [decide_eq_decide];exact ⟨fun h=> ⟨h.1,h.2.1,this⟩,fun h=> ⟨h.1,h.2.1,by omega⟩⟩
 rw [this]
end
section
theorem zqP {l:List En} (hr:zac l) {x y:En} (hx:x ∈ l) (hy:y ∈ l) (h:x.1=y.1):x=y:=by
 induction l with
 | nil=> cases hx
 | cons z l ih=>
   have h1:=(List.pairwise_cons.1 hr).1;rcases List.mem_cons.1 hx with Dw | Dw
   ·rcases List.mem_cons.1 hy with LD | LD
    ·rw [Dw,LD]
    ·have:=h1 y LD;rw [Dw] at h;omega
   ·rcases List.mem_cons.1 hy with LD | LD
    ·have:=h1 x Dw;rw [LD] at h;omega
    ·exact ih (List.pairwise_cons.1 hr).2 Dw LD
theorem zqB {l:List En} (hr:zac l) {v b s a:Nat} (hb:b < 4294967296) (hs:s < 18446744073709551616):atL (zaR l (za9 v b s,a)) v b s=a:=by
 have B7:zac (zaR l (za9 v b s,a)):=zc8 hr;have hm:(za9 v b s,a) ∈ (zaR l (za9 v b s,a)).filter (pAt v b s):=List.mem_filter.2 ⟨zqz _ _,by
  unfold pAt;refine decide_eq_true ⟨zeV hb hs,zdl hb hs, ?_⟩;rw [zdm hs];exact zl⟩
 rw [zde B7 v b s hb hs]
 cases hf:((zaR l (za9 v b s,a)).filter (pAt v b s)).getLast? with
 | none=> rw [List.getLast?_eq_none_iff] at hf;rw [hf] at hm;cases hm
 | some y=>
   have h1:=zia (B7.filter _) hf _ hm;obtain ⟨hy,hp⟩:=List.mem_filter.1 (zdQ hf);unfold pAt at hp;have hp:=of_decide_eq_true hp;have h2:=(zcz (x:=y.1) (y:=za9 v b s) (by rw [zeV hb hs];exact hp.1) (by rw [zdl hb hs];exact hp.2.1)).1.2 (by rw [zdm hs];exact hp.2.2)
   have:=zqP B7 hy (zqz l (za9 v b s,a)) (by simp only at h1 ⊢;omega)
   rw [this]
theorem zo8 {v s x:Nat} (hs:s < 18446744073709551616) {b:Nat} (hb:b < 4294967296):∀(ps:List Pu) {l:List En} (_:zac l) (_:∀p ∈ ps,p.b < 4294967296) (_:(ps.map (·.b)).Nodup),atL (zaP l v s x ps) v b s=(match ps.find? fun p=> decide (p.b=b) with
 | some p=> puA x p
 | none=> atL l v b s)
 | [],_,_,_,_=> rfl
 | p :: ps,l,hr,hp,hn=> by
   rw [List.map_cons,List.nodup_cons] at hn;rw [zei,zo8 hs hb ps (zc8 hr) (fun q hq=> hp q (List.mem_cons_of_mem _ hq)) hn.2,List.find?_cons]
   by_cases h:p.b=b
   ·rw [decide_eq_true h];simp only;have:ps.find? (fun q=> decide (q.b=b))=none:=by
        rw [List.find?_eq_none];intro q hq Za;exact hn.1 (List.mem_map.2 ⟨q,hq,by rw [of_decide_eq_true Za,h]⟩)
    rw [this,h];exact zqB hr hb hs
   ·rw [decide_eq_false h];simp only
    cases hf:ps.find? fun q=> decide (q.b=b) with
    | some q=> rfl
    | none=>
      simp only;refine zpL hr hb hs fun hc=> h ?_;rw [zdl (hp p List.mem_cons_self) hs] at hc;exact hc.2.1
theorem zqv (f:Nat→Bool) (q:Nat→Pu) (hq:∀n,(q n).b=n) (b:Nat):∀bs:List Nat,((bs.filter f).map q).find? (fun p=> decide (p.b=b))=if b ∈ bs∧f b=true then some (q b) else none
 | []=> by simp
 | n ::bs=> by
   have ih:=zqv f q hq b bs
   by_cases hn:f n=true
   ·rw [List.filter_cons_of_pos hn,List.map_cons,List.find?_cons,hq]
    by_cases h:n=b
    ·subst h;rw [decide_eq_true rfl];simp [hn]
    ·rw [decide_eq_false h];simp only;rw [ih];have:b≠n:=fun e=> h e.symm;simp [this]
   ·rw [List.filter_cons_of_neg hn,ih]
    by_cases h:b=n
    ·subst h;simp [hn]
    ·simp [h]
end
end Go.Proofs.YtfldlfladcfggaaGreat
