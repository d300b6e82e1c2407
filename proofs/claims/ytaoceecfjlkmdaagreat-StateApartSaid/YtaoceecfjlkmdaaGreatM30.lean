/- Lemmas of the walks, merged and pressed by press.py. Conditions: those of each theorem. -/
import Derived.Test.YtaoceecfjlkmdaaGreatM20
set_option maxRecDepth 100000
set_option maxHeartbeats 64000000
set_option linter.all false
namespace Go.Proofs.YtaoceecfjlkmdaaGreat
open Tryz
section
theorem zqz (l:List En) (e:En):e ∈ zaR l e:=by
 induction l with
 | nil=> exact List.mem_cons_self
 | cons y l ih=>
   unfold zaR
   split
   ·exact List.mem_cons_of_mem _ ih
   ·split
    ·exact List.mem_cons_self
    ·exact List.mem_cons_self
structure zqf (c c':Ct) (u:Int):Prop where
 find:c'.find u=c.find u
 pt:∀t,(c'.fl<=t\/t ∈ c'.ofL u)↔(c.fl<=t\/t ∈ c.ofL u)
theorem zqf.refl (c:Ct) (u:Int):zqf c c u:=⟨rfl,fun _=> Iff.rfl⟩
theorem zqf.trans {a b c:Ct} {u:Int} (h:zqf a b u) (k:zqf b c u):zqf a c u:=⟨k.find.trans h.find,fun t=> (k.pt t).trans (h.pt t)⟩
theorem zqf.times {c c':Ct} {u:Int} (h:zqf c c' u) (l:List Mk):zqf c {c' with times:=l} u:=⟨h.find,h.pt⟩
theorem zqf.may {c c':Ct} {u:Int} (h:zqf c c' u) {t s s':Nat} (ht:t<=s) (N5:t<=s'):c'.may u t s'=c.may u t s:=by
 unfold Ct.may;rw [h.find]
 cases c.find u with
 | none=> rfl
 | some x=>
   simp only;have h1:=h.pt t;have e:(decide (c'.fl<=t) || decide (t ∈ c'.ofL u))=(decide (c.fl<=t) || decide (t ∈ c.ofL u)):=by
    rw [Bool.eq_iff_iff]
    simpa using h1
   rw [e,decide_eq_true ht,decide_eq_true N5]
theorem zqf.sizeAt {c c':Ct} {u:Int} (h:zqf c c' u) {t s s':Nat} (ht:t<=s) (N5:t<=s'):c'.sizeAt u t s'=c.sizeAt u t s:=by
 unfold Ct.sizeAt;rw [h.find]
 cases c.find u with
 | none=> rfl
 | some x=>
   simp only
   cases zdD x.sizes t with
   | none=> rfl
   | some n=> simp only;rw [h.may ht N5]
theorem zqj (c:Ct) {v u:Int} (hu:u≠v):zqf c (c.delete v) u:=by
 refine ⟨?_,fun _=> Iff.rfl⟩;unfold Ct.find Ct.delete;generalize c.vols=vs
 induction vs with
 | nil=> rfl
 | cons y vs ih=>
   rw [List.eraseP_cons]
   by_cases hy:(y.id:Int)=v
   ·have dD:¬(y.id:Int)=u:=fun e=> hu ud;simp only [hy,decide_true,cond_true];rw [List.find?_cons];simp only [dD,decide_false]
   simp only [hy,decide_false,cond_false];rw [List.find?_cons,List.find?_cons]
   cases decide ((y.id:Int)=u) with
   | true=> rfl
   | false=> exact ih
theorem zqk (c:Ct) {v u:Int} (hu:u≠v):zqf c (c.forget v) u:=by
 refine ⟨rfl,fun t=> ⟨fun h=> (ziy c v u t).pt h,fun h=> ?_⟩⟩;rcases h with h | h
 ·exact .inl h
 right
 unfold Ct.ofL at h ⊢;rcases List.mem_append.1 h with h | h
 ·exact List.mem_append_left _ h
 obtain ⟨b,hb,rfl⟩:=List.mem_map.1 h;obtain ⟨hb,hm⟩:=List.mem_filter.1 hb;have hm:=of_decide_eq_true hm;have dz:u ∈ b.ms.filter fun x=> decide (x≠v):=List.mem_filter.2 ⟨hm,decide_eq_true hu⟩;refine List.mem_append_right _ (List.mem_map.2 ⟨{b with ms:=b.ms.filter fun x=> decide (x≠v)},List.mem_filter.2 ⟨List.mem_filterMap.2 ⟨b,hb, ?_⟩,decide_eq_true dz⟩,rfl⟩)
 simp only;rw [if_neg (fun e=> by rw [e] at dz;cases dz)]
theorem zqh (c:Ct) {v u:Int} (hu:u≠v) (l:List Mk):zqf c (c.resize v l) u:=by
 refine ⟨?_,fun _=> Iff.rfl⟩;unfold Ct.find Ct.resize;generalize c.vols=vs
 induction vs with
 | nil=> rfl
 | cons y vs ih=>
   rw [List.map_cons,List.find?_cons,List.find?_cons]
   by_cases hy:(y.id:Int)=v
   ·have dD:¬(y.id:Int)=u:=fun e=> hu ud;simp only [if_pos hy,dD,decide_false];exact ih
   simp only [if_neg hy]
   cases decide ((y.id:Int)=u) with
   | true=> rfl
   | false=> exact ih
theorem zqn {win ev:Nat} {c:Ct} {l:List En} {s clock:Nat} {o:PO} {g:Chg} (hg:zV win ev c l (s+1) clock o=(0,g)) (hk:o.k=2\/o.k=3\/o.k=4\/o.k=5\/o.k=13) {u:Int} (hu:u≠o.v):
 zqf c g.c u/\g.prune=false/\(g.puts= []\/g.vol=o.v.toNat)/\(g.drop=0\/g.drop=o.v.toNat)/\g.seq=s+1:=by
 unfold zV at hg;rw [if_neg ud] at hg
 split at hg
 ·unfold zbh at hg
  cases hf:c.find o.v with
  | none=> rw [hf] at hg;cases hg
  | some x=>
    rw [hf] at hg
    cases hg
    exact ⟨(zqj c hu).trans (zqk _ hu),rfl, .inl rfl, .inr rfl,rfl⟩
 split at hg
 ·unfold za6 at hg
  cases hf:c.find o.v with
  | none=> rw [hf] at hg;cases hg
  | some x=>
    rw [hf] at hg;simp only at hg
    split at hg
    ·rename_i h0;exact absurd (Prod.mk.inj hg).1 h0
    cases hg
    exact ⟨zqh c hu _,rfl, .inr rfl, .inl rfl,rfl⟩
 split at hg
 ·unfold zaz at hg
  cases hf:c.find o.v with
  | none=> rw [hf] at hg;cases hg
  | some x=>
    rw [hf] at hg;simp only at hg
    split at hg
    ·split at hg
     ·cases hg
     cases hg;exact ⟨zqf.refl _ _,rfl, .inr rfl, .inl rfl,rfl⟩
    split at hg
    ·cases hg
    cases hg;exact ⟨zqf.refl _ _,rfl, .inr rfl, .inl rfl,rfl⟩
 rw [if_neg ud,if_neg ud,if_neg ud,if_neg ud,if_pos ud] at hg;unfold zcW at hg;simp only at hg
 split at hg
 ·rename_i h0;exact absurd (Prod.mk.inj hg).1 h0
 cases hf:c.find o.v with
 | none=> rw [hf] at hg;cases hg
 | some x=>
   rw [hf] at hg;simp only at hg;obtain ⟨h1,h2⟩:=Prod.mk.inj hg;subst h2;exact ⟨zqh c hu _,rfl, .inr rfl, .inl rfl,rfl⟩
theorem zqo {v s x u:Nat} (hs:s < 18446744073709551616) (qk:u≠v):∀(ps:List Pu) {l:List En} (_:zac l) {b t:Nat} (_:b < 4294967296) (_:t < 18446744073709551616) (_:∀p ∈ ps,p.b < 4294967296),atL (zaP l v s x ps) u b t=atL l u b t
 | [],_,_,_,_,_,_,_=> rfl
 | p::ps,l,hr,b,t,hb,ht,hp=> by
   rw [zei,zqo hs qk ps (zc8 hr) hb ht fun q hq=> hp q (List.mem_cons_of_mem _ hq)];refine zpL hr hb ht ?_;rw [zeV (hp p List.mem_cons_self) hs];exact fun h=> qk h.1.symm
theorem zqt {l:List En} (hr:zac l) {s t:Nat} (hl:∀e ∈ l,zp e.1<=s) (AO:s<=t) (v b:Nat) (hb:b < 4294967296) (ht:t < 18446744073709551616):atL l v b t=atL l v b s:=by
 rw [zde hr v b t hb ht,zde hr v b s hb ud];have:l.filter (pAt v b t)=l.filter (pAt v b s):=List.filter_congr fun x hx=> by
  unfold pAt;have:=hl x hx;rw [decide_eq_decide];exact ⟨fun h=> ⟨h.1,h.2.1,this⟩,fun h=> ⟨h.1,h.2.1,ud⟩⟩
 rw [this]
theorem zqm {g:Chg} {x u:Nat} {l:List En} (hr:zac l) (hs:g.seq < 18446744073709551616) {b t:Nat} (hb:b < 4294967296) (ht:t < 18446744073709551616) (hp:∀p ∈ g.puts,p.b < 4294967296) (hv:g.puts= []\/u≠g.vol) (hd:g.drop=0\/u≠g.drop) (Fb:g.prune=false):atL (zch g x l) u b t=atL l u b t:=by
 have h1:atL (zaP l g.vol g.seq x g.puts) u b t=atL l u b t:=by
  rcases hv with hv | hv
  ·rw [hv];rfl
  exact zqo hs hv g.puts hr hb ht hp
 unfold zch;simp only;rw [Fb];simp only [Bool.false_eq_true,if_false]
 split
 ·exact h1
 have B7:=zfy (v:=g.vol) (s:=g.seq) (x:=x) g.puts hr;unfold zdE;rw [zcu B7];refine (zhw B7 hb ht fun y hy=> ?_).trans h1;have:u≠g.drop:=ud;simp [hy,this]
theorem zqs {c:Ct} {s k:Nat} (h:CtI c s k) {v:Int} {x:Vl} (hf:c.find v=some x):1<=v/\v<=65535/\v<=c.nv:=by
 obtain ⟨h1,h2⟩:=za0 hf;have:=(h.vols x h1).id;have:=h.nv
 omega
theorem zqr {c:Ct} {s k:Nat} (h:CtI c s k) {v:Int} {x:Vl} (hf:c.find v=some x):zas x.sizes<=32:=(zbR (h.vols x (za0 hf).1).sizes).2
theorem zqq {nb k x win ev:Nat} {st:PS} {o:PO} (h:StI nb st k) (hx:zcn nb st.l x) (hk:o.k=2\/o.k=3\/o.k=4\/o.k=5\/o.k=13) {v b:Int} (hv:v≠o.v):
 zly (zal win ev st o x) v b=zly st v b/\(zal win ev st o x=st\/((zal win ev st o x).seq=st.seq+1/\st.seq+1 < 18446744073709551616/\∀t,t<=st.seq->zbo (zal win ev st o x) v b t=zbo st v b t)):=by
 unfold zal;rw [if_neg ud]
 split
 ·exact ⟨rfl, .inl rfl⟩
 rename_i h0
 obtain ⟨g0,he,hg,-,Tf,aQ,hs⟩:=znv (win:=win) (ev:=ev) (c:=st.c) (l:=st.l) (s:=st.seq) (clock:=st.clock) (o:=o) (g:=(zc9 win ev st.c st.l st.seq st.clock o).2) (Prod.ext uan rfl);obtain ⟨-,-,G7⟩:=zem (window:=win) (every:=ev) (c:=st.c) (l:=st.l) (s:=st.seq) (clock:=st.clock) (o:=o) (g:=(zc9 win ev st.c st.l st.seq st.clock o).2) h.ct (Prod.ext uan rfl);generalize (zc9 win ev st.c st.l st.seq st.clock o).2=g at *;obtain ⟨ha,Fb,FL,Cu,AE⟩:=zqn he hk hv;have hP:=PoR.of Tf aQ;have II:=hP.vol ud;have ha:zqf st.c g.c v:=by rw [hg];exact ha.times _
 have Fb:g.prune=false:=by rw [hg];exact Fb
 have FL:g.puts= []\/g.vol=o.v.toNat:=by rw [hg];exact FL
 have Cu:g.drop=0\/g.drop=o.v.toNat:=by rw [hg];exact Cu
 have BF:=G7.seq;have Fc:=h.seq;have kZ:∀p ∈ g.puts,p.b < 4294967296:=fun p hp=> by have:=G7.blk p hp;omega
 have AF:∀(y:Vl) (n t:Nat),st.c.find v=some y->n < 4294967296->t<=st.seq+1->zbX (zcJ st g x).bl (atL (zcJ st g x).l v.toNat n t)=zbX st.bl (atL st.l v.toNat n t):=fun y n t hy hn ht=> by
  have hp:=zqs h.ct hy
  show zbX (blP st.bl x g.puts) (atL (zch g x st.l) v.toNat n t)=_
  rw [zqm h.rise ud hn ud kZ (FL.imp id fun e=> by omega) (Cu.imp id fun e=> by omega) Fb,zky hx]
 refine ⟨?_, .inr ⟨BF,ud,fun t ht=> ?_⟩⟩
 ·unfold zly;rw [show (zcJ st g x).c=g.c from rfl,show (zcJ st g x).seq=st.seq+1 from BF,ha.find]
  cases hf:st.c.find v with
  | none=> rfl
  | some y=>
    simp only
    split
    ·rfl
    rename_i hb
    have bM:=zqr h.ct hf;rw [AF y _ _ hf ud zl,zqt h.rise (fun e he=> (h.keys e he).1) ud _ _ ud ud]
 unfold zbo;rw [show (zcJ st g x).c=g.c from rfl,show (zcJ st g x).seq=st.seq+1 from BF,ha.sizeAt ht ud]
 split
 ·rfl
 rename_i hz
 split
 ·rfl
 rename_i hb
 have FR:=Ct.sizeAt_fit h.ct (v:=v) (t:=t) (last:=st.seq) (n:=(st.c.sizeAt v t st.seq).2) (Prod.ext (by simpa using hz) rfl)
 cases hf:st.c.find v with
 | none=> unfold Ct.sizeAt at hz;rw [hf] at hz;simp at hz
 | some y=> rw [AF y _ _ hf ud ud]
end
end Go.Proofs.YtaoceecfjlkmdaaGreat
