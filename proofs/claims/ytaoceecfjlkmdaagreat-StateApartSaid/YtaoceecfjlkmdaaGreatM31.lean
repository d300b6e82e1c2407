/- Lemmas of the walks, merged and pressed by press.py. Conditions: those of each theorem. -/
import Derived.Test.YtaoceecfjlkmdaaGreatM30
set_option maxRecDepth 100000
set_option maxHeartbeats 64000000
set_option linter.all false
namespace Go.Proofs.YtaoceecfjlkmdaaGreat
section
theorem zqP {l:List En} (hr:zac l) {x y:En} (hx:x ∈ l) (hy:y ∈ l) (h:x.1=y.1):x=y:=by
 induction l with
 | nil=> cases hx
 | cons z l ih=>
   have h1:=(List.pairwise_cons.1 hr).1;rcases List.mem_cons.1 hx with Dw | Dw
   ·rcases List.mem_cons.1 hy with LD | LD
    ·rw [Dw,LD]
    ·have:=h1 y LD;rw [Dw] at h;omega
   ·rcases List.mem_cons.1 hy with LD | LD
    ·have:=h1 x Dw;rw [LD] at h;omega
    ·exact ih (List.pairwise_cons.1 hr).2 Dw LD
theorem zqB {l:List En} (hr:zac l) {v b s a:Nat} (hb:b < 4294967296) (hs:s < 18446744073709551616):atL (zaR l (za9 v b s,a)) v b s=a:=by
 have B7:zac (zaR l (za9 v b s,a)):=zc8 hr;have hm:(za9 v b s,a) ∈ (zaR l (za9 v b s,a)).filter (pAt v b s):=List.mem_filter.2 ⟨zqz _ _,by
  unfold pAt;refine decide_eq_true ⟨zeV hb hs,zdl hb hs, ?_⟩;rw [zdm hs];exact zl⟩
 rw [zde B7 v b s hb hs]
 cases hf:((zaR l (za9 v b s,a)).filter (pAt v b s)).getLast? with
 | none=> rw [List.getLast?_eq_none_iff] at hf;rw [hf] at hm;cases hm
 | some y=>
   have h1:=zia (B7.filter _) hf _ hm;obtain ⟨hy,hp⟩:=List.mem_filter.1 (zdQ hf);unfold pAt at hp;have hp:=of_decide_eq_true hp;have h2:=(zcz (x:=y.1) (y:=za9 v b s) (by rw [zeV hb hs];exact hp.1) (by rw [zdl hb hs];exact hp.2.1)).1.2 (by rw [zdm hs];exact hp.2.2)
   have:=zqP B7 hy (zqz l (za9 v b s,a)) (by simp only at h1 ⊢;omega)
   rw [this]
theorem zo8 {v s x:Nat} (hs:s < 18446744073709551616) {b:Nat} (hb:b < 4294967296):∀(ps:List Pu) {l:List En} (_:zac l) (_:∀p ∈ ps,p.b < 4294967296) (_:(ps.map (·.b)).Nodup),atL (zaP l v s x ps) v b s=(match ps.find? fun p=> decide (p.b=b) with
 | some p=> puA x p
 | none=> atL l v b s)
 | [],_,_,_,_=> rfl
 | p :: ps,l,hr,hp,hn=> by
   rw [List.map_cons,List.nodup_cons] at hn;rw [zei,zo8 hs hb ps (zc8 hr) (fun q hq=> hp q (List.mem_cons_of_mem _ hq)) hn.2,List.find?_cons]
   by_cases h:p.b=b
   ·rw [decide_eq_true h];simp only;have:ps.find? (fun q=> decide (q.b=b))=none:=by
        rw [List.find?_eq_none];intro q hq Za;exact hn.1 (List.mem_map.2 ⟨q,hq,by rw [of_decide_eq_true Za,h]⟩)
    rw [this,h];exact zqB hr hb hs
   ·rw [decide_eq_false h];simp only
    cases hf:ps.find? fun q=> decide (q.b=b) with
    | some q=> rfl
    | none=>
      simp only;refine zpL hr hb hs fun hc=> h ?_;rw [zdl (hp p List.mem_cons_self) hs] at hc;exact hc.2.1
theorem zqv (f:Nat→Bool) (q:Nat→Pu) (hq:∀n,(q n).b=n) (b:Nat):∀bs:List Nat,((bs.filter f).map q).find? (fun p=> decide (p.b=b))=if b ∈ bs∧f b=true then some (q b) else none
 | []=> by simp
 | n ::bs=> by
   have ih:=zqv f q hq b bs
   by_cases hn:f n=true
   ·rw [List.filter_cons_of_pos hn,List.map_cons,List.find?_cons,hq]
    by_cases h:n=b
    ·subst h;rw [decide_eq_true rfl];simp [hn]
    ·rw [decide_eq_false h];simp only;rw [ih];have:b≠n:=fun e=> h e.symm;simp [this]
   ·rw [List.filter_cons_of_neg hn,ih]
    by_cases h:b=n
    ·subst h;simp [hn]
    ·simp [h]
theorem zqI {win ev:Nat} {c:Ct} {l:List En} {s clock:Nat} {o:PO} (h:CtI c s clock) {g:Chg} (hg:zV win ev c l (s+1) clock o=(0,g)):c.nv≤g.c.nv∧(g.puts= []∨g.vol≤g.c.nv):=by
 have BM:∀n:Nat,(c.create n (s+1)).1=0→c.nv≤(c.create n (s+1)).2.1.nv∧(c.create n (s+1)).2.2≤(c.create n (s+1)).2.1.nv:=fun n h0=> by
  unfold Ct.create at h0 ⊢
  split at h0
  ·cases h0
  ·rename_i hc
   rw [if_neg hc];exact ⟨by simp,by simp⟩
 have dY:∀{x:Vl},c.find o.v=some x→o.v.toNat≤c.nv:=fun hf=> by have:=zqs h hf;omega
 unfold zV at hg
 split at hg
 ·obtain ⟨h1,h2⟩:=Prod.mk.inj hg;subst h2;exact ⟨(BM _ h1).1, .inl rfl⟩
 split at hg
 ·unfold zbh at hg
  cases hf:c.find o.v with
  | none=> rw [hf] at hg;cases hg
  | some x=> rw [hf] at hg;cases hg;exact ⟨zl, .inl rfl⟩
 split at hg
 ·unfold za6 at hg
  cases hf:c.find o.v with
  | none=> rw [hf] at hg;cases hg
  | some x=>
    rw [hf] at hg;simp only at hg
    split at hg
    ·rename_i h0;exact absurd (Prod.mk.inj hg).1 h0
    ·cases hg;exact ⟨zl, .inr (dY hf)⟩
 split at hg
 ·unfold zaz at hg
  cases hf:c.find o.v with
  | none=> rw [hf] at hg;cases hg
  | some x=>
    rw [hf] at hg;simp only at hg
    split at hg
    ·split at hg
     ·cases hg
     ·cases hg;exact ⟨zl, .inr (dY hf)⟩
    ·split at hg
     ·cases hg
     ·cases hg;exact ⟨zl, .inr (dY hf)⟩
 split at hg
 ·obtain ⟨-,h2⟩:=Prod.mk.inj hg;subst h2;refine ⟨?_, .inl rfl⟩
  show c.nv≤(c.add o.m).2.1.nv
  unfold Ct.add
  split
  ·exact zl
  ·split <;> exact zl
 split at hg
 ·split at hg
  ·cases hg
  ·cases hg;exact ⟨zl, .inl rfl⟩
 split at hg
 ·obtain ⟨-,h2⟩:=Prod.mk.inj hg;subst h2;refine ⟨?_, .inl rfl⟩
  show c.nv≤(c.mark o.i (s+1)).2.1.nv
  unfold Ct.mark
  split
  ·exact zl
  ·split <;> exact zl
 split at hg
 ·split at hg
  ·cases hg
  ·cases hg;exact ⟨zl, .inl rfl⟩
 split at hg
 ·unfold zcW at hg;simp only at hg
  split at hg
  ·rename_i h0;exact absurd (Prod.mk.inj hg).1 h0
  ·cases hf:c.find o.v with
   | none=> rw [hf] at hg;cases hg
   | some x=>
     rw [hf] at hg;simp only at hg;obtain ⟨h1,h2⟩:=Prod.mk.inj hg;subst h2;exact ⟨zl, .inr (dY hf)⟩
 split at hg
 ·cases hg;exact ⟨zl, .inl rfl⟩
 ·unfold zcO at hg;simp only at hg
  split at hg
  ·rename_i h0;exact absurd (Prod.mk.inj hg).1 h0
  ·split at hg
   ·rename_i h0;exact absurd (Prod.mk.inj hg).1 h0
   ·obtain ⟨h1,h2⟩:=Prod.mk.inj hg;subst h2;exact ⟨(BM _ h1).1, .inr (BM _ h1).2⟩
def StV (st:PS):Prop:=∀e ∈ st.l,zj e.1≤st.c.nv
theorem zqR {nb k x win ev:Nat} {st:PS} {o:PO} (h:StI nb st k) (hv:StV st):StV (zal win ev st o x):=by
 unfold zal
 split
 ·unfold zlK
  split
  ·exact hv
  ·exact hv
 split
 ·exact hv
 ·rename_i _ h0
  obtain ⟨g0,he,hg,-,Tf,aQ,hs⟩:=znv (win:=win) (ev:=ev) (c:=st.c) (l:=st.l) (s:=st.seq) (clock:=st.clock) (o:=o) (g:=(zc9 win ev st.c st.l st.seq st.clock o).2) (Prod.ext (by simpa using h0) rfl)
  obtain ⟨-,-,G7⟩:=zem (window:=win) (every:=ev) (c:=st.c) (l:=st.l) (s:=st.seq) (clock:=st.clock) (o:=o) (g:=(zc9 win ev st.c st.l st.seq st.clock o).2) h.ct (Prod.ext (by simpa using h0) rfl)
  generalize (zc9 win ev st.c st.l st.seq st.clock o).2=g at *;obtain ⟨h1,h2⟩:=zqI h.ct he;have h1:st.c.nv≤g.c.nv:=by rw [hg];exact h1
  have h2:g.puts= []∨g.vol≤g.c.nv:=by rw [hg];exact h2
  have Fc:=h.seq;have BF:=G7.seq;intro e Ny
  show zj e.1≤g.c.nv
  rcases zhv h.rise Ny with he | ⟨p,hp,rfl⟩
  ·exact zs (hv e he) h1
  ·have kZ:=G7.blk p hp;rw [zeV (by omega) (by omega)]
   rcases h2 with h2 | h2
   ·rw [h2] at hp;cases hp
   ·exact h2
theorem zqJ {c:Ct} {u:Int} {x:Vl} {vs:List Vl} (hf:c.find u=some x):({c with vols:=c.vols++vs}:Ct).find u=some x:=by
 unfold Ct.find at hf ⊢;simp only [List.find?_append,hf,Option.some_or]
theorem zqA (c:Ct) {o:PO} (hk:o.k=10):zav c o=(0,o.pt.toNat):=by
 unfold zav;rw [if_neg (by omega),if_neg (by omega)]
theorem zqQ {nb k x win ev:Nat} {st:PS} {o:PO} (h:StI nb st k) (hv:StV st) (hk:o.k=10) (h0:(zc9 win ev st.c st.l st.seq st.clock o).1=0) (b:Int):
 (zc9 win ev st.c st.l st.seq st.clock o).2.id=st.c.nv+1∧zbo (zcJ st (zc9 win ev st.c st.l st.seq st.clock o).2 x) o.v b o.pt.toNat=zly (zcJ st (zc9 win ev st.c st.l st.seq st.clock o).2 x) ((st.c.nv+1:Nat):Int) b:=by
 obtain ⟨g0,he,hg,-,Tf,aQ,hs⟩:=znv (win:=win) (ev:=ev) (c:=st.c) (l:=st.l) (s:=st.seq) (clock:=st.clock) (o:=o) (g:=(zc9 win ev st.c st.l st.seq st.clock o).2) (Prod.ext h0 rfl);obtain ⟨-,-,G7⟩:=zem (window:=win) (every:=ev) (c:=st.c) (l:=st.l) (s:=st.seq) (clock:=st.clock) (o:=o) (g:=(zc9 win ev st.c st.l st.seq st.clock o).2) h.ct (Prod.ext h0 rfl);generalize (zc9 win ev st.c st.l st.seq st.clock o).2=g at *;have Fc:=h.seq;unfold zV at he;rw [if_neg (by omega),if_neg (by omega),if_neg (by omega),if_neg (by omega),if_neg (by omega),if_neg (by omega),if_neg (by omega),if_neg (by omega),if_neg (by omega),if_neg (by omega)] at he
 unfold zcO at he;simp only [zqA _ hk,ne_eq,not_true_eq_false,if_false,Nat.add_sub_cancel] at he
 split at he
 ·rename_i h1;exact absurd (Prod.mk.inj he).1 h1
 ·rename_i h1
  obtain ⟨h2,h3⟩:=Prod.mk.inj he;obtain ⟨z,hz⟩:∃z,(st.c.sizeAt o.v o.pt.toNat st.seq).2=z:=⟨_,rfl⟩;rw [hz] at h2 h3;have BM:st.c.create z (st.seq+1)=(0,{st.c with nv:=st.c.nv+1,vols:=st.c.vols++ [⟨st.c.nv+1,st.seq+1, [(st.seq+1,z)]⟩]},st.c.nv+1):=by
   unfold Ct.create at h2 ⊢
   split at h2
   ·cases h2
   ·rename_i hc;rw [if_neg hc]
  rw [BM] at h3;have AR:st.c.sizeAt o.v o.pt.toNat st.seq=(0,z):=Prod.ext (by simpa using h1) hz
  have FR:=Ct.sizeAt_fit h.ct AR;have Tv:o.pt.toNat≤st.seq:=by
   unfold Ct.sizeAt Ct.may at AR
   cases hf:st.c.find o.v with
   | none=> rw [hf] at AR;cases AR
   | some y=>
     rw [hf] at AR;simp only at AR
     cases Ob:zdD y.sizes o.pt.toNat with
     | none=> rw [Ob] at AR;cases AR
     | some n=>
       rw [Ob] at AR;simp only at AR
       split at AR
       ·rename_i hm
        simp only [Bool.and_eq_true,decide_eq_true_eq] at hm;exact hm.2.1
       ·cases AR
  obtain ⟨y,hy⟩:∃y,st.c.find o.v=some y:=by
   unfold Ct.sizeAt at AR
   cases hf:st.c.find o.v with
   | none=> rw [hf] at AR;cases AR
   | some y=> exact ⟨y,rfl⟩
  have BP:=zqs h.ct hy;generalize Ky:(za7 g0.c.times (st.seq+1) st.clock).2=tm at hg;subst h3;simp only at hg;have SX:g.c={st.c with nv:=st.c.nv+1,vols:=st.c.vols++ [⟨st.c.nv+1,st.seq+1, [(st.seq+1,z)]⟩],times:=tm}:=by rw [hg]
  have BE:zqf st.c g.c o.v:=by
   rw [SX];refine ⟨?_,fun _=> Iff.rfl⟩;rw [hy];exact zqJ (c:=st.c) hy
  have B6:g.c.find ((st.c.nv+1:Nat):Int)=some ⟨st.c.nv+1,st.seq+1, [(st.seq+1,z)]⟩:=by
   rw [SX];unfold Ct.find;simp only [List.find?_append];have :st.c.vols.find? (fun x=> decide ((x.id:Int)=((st.c.nv+1:Nat):Int)))=none:=by
        rw [List.find?_eq_none];intro w hw er;have:=(h.ct.vols w hw).id;have:=of_decide_eq_true er
        omega
   rw [this];simp
  have hl:(zcJ st g x).l=zaP st.l (st.c.nv+1) (st.seq+1) x (zcG st.l o.v.toNat o.pt.toNat z):=by
   show zch g x st.l=_
   rw [hg]
   rfl
  have Ae:(zcJ st g x).bl=blP st.bl x g.puts:=rfl;refine ⟨by rw [hg], ?_⟩
  unfold zbo zly;rw [show (zcJ st g x).c=g.c from rfl,show (zcJ st g x).seq=st.seq+1 from G7.seq,BE.sizeAt Tv (by omega),AR,B6]
  simp only [ne_eq,not_true_eq_false,if_false];have e1:zas [(st.seq+1,z)]=z:=rfl;rw [e1]
  split
  ·rfl
  ·rename_i E7
   have XQ:b.toNat < z:=by omega
   have kZ:∀p ∈ g.puts,p.b < 4294967296:=fun p hp=> by have:=G7.blk p hp;omega
   have Kh:atL (zcJ st g x).l o.v.toNat b.toNat o.pt.toNat=atL st.l o.v.toNat b.toNat o.pt.toNat:=by
        have Ib:g.drop=0:=by rw [hg];rfl
        have Jg:g.prune=false:=by rw [hg];rfl
        have et:=G7.seq;exact znS h.rise (by omega) (by omega) (by omega) kZ (.inl Ib) (fun e=> by rw [Jg] at e;cases e)
   have GK:=G7.nodup;have d8:g.puts=zcG st.l o.v.toNat o.pt.toNat z:=by rw [hg]
   rw [d8] at GK kZ;have PX:atL st.l (st.c.nv+1) b.toNat (st.seq+1)=0:=by
        rcases zeO st.l (st.c.nv+1) b.toNat (st.seq+1) with h0 | ⟨e,Ny,-⟩
        ·exact h0
        ·rw [zde h.rise _ _ _ (by omega) (by omega)]
         have:st.l.filter (pAt (st.c.nv+1) b.toNat (st.seq+1))= []:=by
          rw [List.filter_eq_nil_iff];intro e' X1 hp;unfold pAt at hp;have:=of_decide_eq_true hp;have:=hv e' X1
          omega
         rw [this]
         rfl
   have ep:atL (zcJ st g x).l (st.c.nv+1) b.toNat (st.seq+1)=atL st.l o.v.toNat b.toNat o.pt.toNat:=by
        rw [hl,zo8 (by omega) (by omega) _ h.rise kZ GK,PX]
        unfold zcG;rw [zqv _ _ (fun _=> rfl)]
        by_cases h7:atL st.l o.v.toNat b.toNat o.pt.toNat=0
        ·rw [if_neg (by simp [h7]),h7]
        ·rw [if_pos ⟨List.mem_range.2 XQ,decide_eq_true h7⟩]
         rfl
   rw [show (((st.c.nv+1:Nat):Int)).toNat=st.c.nv+1 from rfl,Kh,ep]
theorem zqL {win ev:Nat} {c:Ct} {l:List En} {s clock:Nat} {o:PO} (hk:o.k=10) (h0:(zc9 win ev c l s clock o).1≠0):c.may o.v o.pt.toNat s=true∨(zc9 win ev c l s clock o).1=44∨(zc9 win ev c l s clock o).1=40∨(zc9 win ev c l s clock o).1=10∨(zc9 win ev c l s clock o).1=50:=by
 have hs:(c.sizeAt o.v o.pt.toNat s).1=0∧c.may o.v o.pt.toNat s=true∨(c.sizeAt o.v o.pt.toNat s).1=40∨(c.sizeAt o.v o.pt.toNat s).1=44:=by
  unfold Ct.sizeAt
  split
  ·exact .inr (.inl rfl)
  ·split
   ·exact .inr (.inr rfl)
   ·split
    ·rename_i h;exact .inl ⟨rfl,h⟩
    ·exact .inr (.inr rfl)
 rcases hs with ⟨-,h⟩ | hs
 ·exact .inl h
 right
 have Aj:(c.sizeAt o.v o.pt.toNat s).1≠0:=by omega
 have he:(zV win ev c l (s+1) clock o)=((c.sizeAt o.v o.pt.toNat s).1,Chg.nil c (s+1)):=by
  unfold zV;rw [if_neg (by omega),if_neg (by omega),if_neg (by omega),if_neg (by omega),if_neg (by omega),if_neg (by omega),if_neg (by omega),if_neg (by omega),if_neg (by omega),if_neg (by omega)]
  unfold zcO;simp only [zqA _ hk,ne_eq,not_true_eq_false,if_false,Nat.add_sub_cancel];rw [if_pos Aj]
 unfold zc9
 split
 ·exact .inr (.inr (.inl rfl))
 ·split
  ·exact .inr (.inr (.inr rfl))
  ·rw [he];simp only;rw [if_pos Aj];simp only
   omega
end
end Go.Proofs.YtaoceecfjlkmdaaGreat
