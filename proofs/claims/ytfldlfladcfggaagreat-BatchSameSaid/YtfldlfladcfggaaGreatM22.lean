/- Lemmas of the walks, merged and pressed by press.py. Conditions: those of each theorem. -/
import Derived.Test.YtfldlfladcfggaaGreatM6
import Derived.Test.YtfldlfladcfggaaGreatM21
set_option maxRecDepth 100000
set_option maxHeartbeats 64000000
set_option linter.all false
namespace Go.Proofs.YtfldlfladcfggaaGreat
section
structure Gd (o:PO):Prop where
 pl:o.plain56=true
 v:o.v=1
 fit:o.k=4∨o.b+o.n≤32
theorem Gd.num {o:PO} (h:Gd o):(o.k=4∨o.k=5∧1≤o.n∧o.b+o.n≤32)∧0≤o.b∧o.b≤31:=by
 have h1:=zf3 h.pl;have h2:=h.fit
 omega
abbrev Tb:=Option (List UInt8) × Nat
def tb (b:Nat) (q:Tb) (o:PO):Tb:=
 if o.k=4 then (if o.b.toNat=b then (some (zdy o.d),q.2+1) else q)
 else if o.b.toNat≤b∧b < o.b.toNat+o.n.toNat then (none,q.2+if q.1.isSome then 1 else 0) else q
def leT (q r:Tb):Prop:=q.2≤r.2∧q.2+(if q.1.isSome then 1 else 0)≤r.2+if r.1.isSome then 1 else 0
theorem leT.step {q r:Tb} (h:leT q r) (b:Nat) (o:PO):leT (tb b q o) (tb b r o):=by
 obtain ⟨h1,h2⟩:=h;unfold tb leT
 split
 ·split
  ·simp;omega
  ·exact ⟨h1,h2⟩
 ·split
  ·simpa using h2
  ·exact ⟨h1,h2⟩
theorem leT.skip (q:Tb) (b:Nat) (o:PO):leT q (tb b q o):=by
 unfold tb leT
 split
 ·split
  ·simp;split <;> omega
  ·exact ⟨zl,zl⟩
 ·split
  ·simp
  ·exact ⟨zl,zl⟩
theorem leT.tr {q r s:Tb} (h:leT q r) (k:leT r s):leT q s:=⟨zs h.1 k.1,zs h.2 k.2⟩
theorem ztf {b:Nat} {l' l:List PO} (h:l'.Sublist l):∀{q r:Tb},leT q r→leT (l'.foldl (tb b) q) (l.foldl (tb b) r):=by
 induction h with
 | slnil=> intro q r h;exact h
 | cons o _ ih=> intro q r h;exact ih (h.tr (leT.skip r b o))
 | cons_cons o _ ih=> intro q r h;exact ih (h.step b o)
theorem zsI:∀l:List PO,(z6 l).Sublist l
 | []=> List.Sublist.slnil
 | o::t=> by
   unfold z6
   split
   ·exact (zsI t).cons o
   ·exact (zsI t).cons_cons o
theorem zth {b:Nat} {o:PO} (h:Gd o) (hb:(b:Int) ∉ o.blocks) (q:Tb):tb b q o=q:=by
 have h1:=h.num;rw [zq8 h.pl] at hb;unfold tb
 split
 ·rename_i hk
  rw [if_neg (by omega)] at hb
  exact if_neg (by omega)
 ·rename_i hk
  rw [if_pos (by omega)] at hb
  exact if_neg (by omega)
theorem tb_on {b:Nat} {o:PO} (h:Gd o) (hb:(b:Int) ∈ o.blocks) (q r:Tb):(tb b q o).1=(tb b r o).1:=by
 have h1:=h.num;rw [zq8 h.pl] at hb;unfold tb
 split
 ·rename_i hk
  rw [if_neg (by omega)] at hb
  have hc:o.b.toNat=b:=by omega
  rw [if_pos hc,if_pos hc]
 ·rename_i hk
  rw [if_pos (by omega)] at hb
  have hc:o.b.toNat≤b∧b < o.b.toNat+o.n.toNat:=by omega
  rw [if_pos hc,if_pos hc]
theorem ztg {b:Nat} {q r:Tb} (h:q.1=r.1) (o:PO):(tb b q o).1=(tb b r o).1:=by
 unfold tb
 split
 ·split
  ·rfl
  ·exact h
 ·split
  ·rfl
  ·exact h
theorem zsM {b:Nat}:∀(t:List PO) (_:∀o ∈ t,Gd o) (q r:Tb),(q.1=r.1∨zrl 1 (b:Int) t=true)→(t.foldl (tb b) q).1=(t.foldl (tb b) r).1
 | [],_,q,r,h=> by
   rcases h with h | h
   ·exact h
   ·cases h
 | o ::t,hg,q,r,h=> by
   have ho:=hg o List.mem_cons_self;refine zsM t (fun x hx=> hg x (List.mem_cons_of_mem _ hx)) _ _ ?_;rcases h with h | h
   ·exact .inl (ztg h o)
   ·by_cases hb:(b:Int) ∈ o.blocks
    ·exact .inl (tb_on ho hb q r)
    ·right
     unfold zrl at h;rw [zrX ho.pl,decide_eq_false hb,Bool.and_false,Bool.false_or,Bool.and_eq_true] at h;exact h.2
theorem zsH {b:Nat}:∀(l:List PO) (_:∀o ∈ l,Gd o) (q:Tb),((z6 l).foldl (tb b) q).1=(l.foldl (tb b) q).1
 | [],_,_=> rfl
 | o ::t,hg,q=> by
   have ho:=hg o List.mem_cons_self;have ht:=fun x hx=> hg x (List.mem_cons_of_mem _ hx);have e:z6 (o::t)=if o.idle t then z6 t else o::z6 t:=rfl;rw [e]
   split
   ·rename_i hi
    rw [zsH t ht q];refine zsM t ht _ _ ?_
    by_cases hb:(b:Int) ∈ o.blocks
    ·right
     unfold PO.idle at hi;rw [Bool.and_eq_true,List.all_eq_true] at hi;have:=hi.2 _ hb;rw [ho.v] at this;exact this
    ·rw [zth ho hb];exact .inl rfl
   ·exact zsH t ht _
theorem Gd.keep {l:List PO} (h:∀o ∈ l,Gd o):∀o ∈ z6 l,Gd o:=fun o ho=> h o (zra l o ho)
def Sm (N:Nat→Nat):Nat:=((List.range 32).map N).sum
theorem zsK (N M:Nat→Nat):∀l:List Nat,(l.map fun b=> N b+M b).sum=(l.map N).sum+(l.map M).sum
 | []=> rfl
 | b::l=> by simp only [List.map_cons,List.sum_cons,zsK N M l];omega
theorem zsV (N M:Nat→Nat):Sm (fun b=> N b+M b)=Sm N+Sm M:=zsK N M _
theorem zs0 {N M:Nat→Nat}:∀l:List Nat,(∀b ∈ l,N b≤M b)→(l.map N).sum≤(l.map M).sum
 | [],_=> zl
 | b::l,h=> by
   have h1:=h b List.mem_cons_self;have h2:=zs0 l fun x hx=> h x (List.mem_cons_of_mem _ hx);simp only [List.map_cons,List.sum_cons]
   omega
theorem zs3 {N M:Nat→Nat} (h:∀b,b < 32→N b≤M b):Sm N≤Sm M:=zs0 _ fun b hb=> h b (List.mem_range.1 hb)
theorem zr5 {N M:Nat→Nat} (h:∀b,b < 32→N b=M b):Sm N=Sm M:=Nat.le_antisymm (zs3 fun b hb=> Nat.le_of_eq (h b hb)) (zs3 fun b hb=> Nat.le_of_eq (h b hb).symm)
theorem ztb {a:Nat} (h:a < 32):Sm (fun b=> if b=a then 1 else 0)=1:=by
 have:∀a,a < 32→Sm (fun b=> if b=a then 1 else 0)=1:=by decide
 exact this a h
theorem zsW:∀L:List Nat,L.Nodup→(∀b ∈ L,b < 32)→Sm (fun b=> if b ∈ L then 1 else 0)=L.length
 | [],_,_=> by decide
 | a::L,hn,hl=> by
   obtain ⟨h1,h2⟩:=List.nodup_cons.1 hn;rw [zr5 (M:=fun b=> (if b=a then 1 else 0)+if b ∈ L then 1 else 0),zsV,ztb (hl a List.mem_cons_self),zsW L h2 fun b hb=> hl b (List.mem_cons_of_mem _ hb),List.length_cons,Nat.add_comm];intro b _
   by_cases e:b=a
   ·subst e;simp [h1]
   ·simp [e]
theorem zr9 {v s x:Nat} (hs:s < 18446744073709551616):∀(ps:List Pu) {l:List En} (_:zac l) (_:∀p ∈ ps,p.b < 4294967296∧za9 v p.b s ∉ l.map (·.1)) (_:(ps.map (·.b)).Nodup),(zaP l v s x ps).length=l.length+ps.length
 | [],_,_,_,_=> rfl
 | p ::ps,l,hr,hp,hn=> by
   rw [List.map_cons,List.nodup_cons] at hn;obtain ⟨h1,h2⟩:=hp p List.mem_cons_self;rw [zei,zr9 hs ps (zc8 hr) ?_ hn.2,zrV hr h2,List.length_cons]
   ·omega
   ·intro q hq;obtain ⟨h3,h4⟩:=hp q (List.mem_cons_of_mem _ hq);refine ⟨h3,fun hm=> ?_⟩;obtain ⟨e,he,hk⟩:=List.mem_map.1 hm;rcases zdX he with rfl | he
    ·have e1:=congrArg zo hk;simp only at e1;rw [zdl h1 hs,zdl h3 hs] at e1;exact hn.1 (List.mem_map.2 ⟨q,hq,e1.symm⟩)
    ·exact h4 (List.mem_map.2 ⟨e,he,hk⟩)
structure SqS (nb:Nat) (st:PS) (m:Nat) (G:Nat→Tb):Prop where
 inv:StI nb st m
 seq:st.seq=m
 clk:st.clock=0
 vol:∃x,st.c.find 1=some x∧zas x.sizes=32
 hole:∀b,b < 32→((G b).1=none↔atL st.l 1 b st.seq=0)
 data:∀b,b < 32→∀d,(G b).1=some d→st.bl (atL st.l 1 b st.seq)=d
 len:st.l.length=Sm fun b=> (G b).2
def zrd (l:List En) (s:Nat) (o:PO):List Pu:=if o.k=5 then zaL l 1 s o.b.toNat o.n.toNat else [⟨o.b.toNat,0,some (zdy o.d)⟩]
theorem Gd.right {o:PO} (h:Gd o):o.right=true:=by
 have:=h.pl;unfold PO.plain56 zrb at this;rw [Bool.and_eq_true] at this;exact this.2
theorem SqS.try {nb m win ev:Nat} {st:PS} {G:Nat→Tb} {o:PO} (h:SqS nb st m G) (hg:Gd o) (hm:m≤100):
 ∃t,zc9 win ev st.c st.l st.seq st.clock o=(0,{Chg.nil {st.c with times:=t} (st.seq+1) with vol:=1,puts:=zrd st.l st.seq o}):=by
 have hn:=hg.num;have AE:=h.seq;obtain ⟨x,hf,hx⟩:=h.vol;have he:zV win ev st.c st.l (st.seq+1) st.clock o=(0,{Chg.nil st.c (st.seq+1) with vol:=1,puts:=zrd st.l st.seq o}):=by
  unfold zV;rw [if_neg (by omega),if_neg (by omega),if_neg (by omega),if_pos (by omega)]
  unfold zaz zrd;rw [hg.v,hf];simp only [hx]
  split
  ·rw [if_neg (by omega)];rfl
  ·rw [if_neg (by omega)];rfl
 obtain ⟨t,ht⟩:∃t,za7 st.c.times (st.seq+1) st.clock=(0,t):=by
  unfold za7
  cases hl:st.c.times.getLast? with
  | none=> exact ⟨_,rfl⟩
  | some y=>
    have:=h.inv.ct.times.fit y (zdQ hl);have hc:=h.clk;simp only;rw [if_neg (by omega),if_pos (by omega)]
    exact ⟨_,rfl⟩
 refine ⟨t, ?_⟩;unfold zc9;rw [if_neg (by rw [hg.right];simp;omega),if_neg (by omega),he]
 simp only [ne_eq,not_true_eq_false,if_false];have N5:za7 (Chg.nil st.c (st.seq+1)).c.times (st.seq+1) st.clock=(0,t):=ht;rw [N5]
 rfl
theorem SqS.step {nb m x win ev:Nat} {st:PS} {G:Nat→Tb} {o:PO} (h:SqS nb st m G) (hg:Gd o) (hm:m≤100) (hx:zcn nb st.l x):
 SqS nb (zcJ st (zc9 win ev st.c st.l st.seq st.clock o).2 x) (m+1) fun b=> tb b (G b) o:=by
 have hn:=hg.num;have AE:=h.seq;obtain ⟨t,ht⟩:=h.try (win:=win) (ev:=ev) hg hm
 obtain ⟨Fb,LA,Mr⟩:=zem h.inv.ct ht;have bR:=zhu (x:=x) h.inv LA Mr hx.2.1;obtain ⟨g,Ib⟩:∃g:Chg,g={Chg.nil {st.c with times:=t} (st.seq+1) with vol:=1,puts:=zrd st.l st.seq o}:=⟨_,rfl⟩
 rw [ht];have NG:zch g x st.l=zaP st.l 1 (st.seq+1) x (zrd st.l st.seq o):=by rw [Ib];rfl
 have BF:g.seq=st.seq+1:=by rw [Ib];rfl
 have Jg:g.puts=zrd st.l st.seq o:=by rw [Ib]
 have SX:g.c={st.c with times:=t}:=by rw [Ib];rfl
 have QI:∀p ∈ zrd st.l st.seq o,p.b < 32:=Mr.blk;have GK:((zrd st.l st.seq o).map (·.b)).Nodup:=Mr.nodup;have AF:=fun (b:Nat) (hb:b < 32)=> zo8 (x:=x) (v:=1) (s:=st.seq+1) (by omega) (b:=b) (by omega) (zrd st.l st.seq o) h.inv.rise (fun p hp=> by have:=QI p hp;omega) GK
 have PX:=fun (b:Nat) (hb:b < 32)=> zqt h.inv.rise (s:=st.seq) (t:=st.seq+1) (fun e he=> (h.inv.keys e he).1) (by omega) 1 b (by omega) (by omega)
 have Nz:∀b,b < 32→(zrd st.l st.seq o).find? (fun p=> decide (p.b=b))=if o.k=4 then (if o.b.toNat=b then some ⟨o.b.toNat,0,some (zdy o.d)⟩ else none) else if (o.b.toNat≤b∧b < o.b.toNat+o.n.toNat)∧atL st.l 1 b st.seq≠0 then some ⟨b,0,none⟩ else none:=by
  intro b hb;unfold zrd
  by_cases hk:o.k=4
  ·rw [if_neg (by omega),if_pos hk]
   by_cases e:o.b.toNat=b
   ·simp [e]
   ·simp [e]
  ·rw [if_pos (by omega),if_neg hk]
   unfold zaL;rw [zqv _ (fun n=> ⟨n,0,none⟩) (fun _=> rfl)];simp only [List.mem_range'_1,decide_eq_true_eq]
 have CQ:∀b,atL st.l 1 b st.seq≠x:=fun b e=> by
  rcases zeO st.l 1 b st.seq with h1 | ⟨y,hy,h1⟩
  ·have:=hx.1;omega
  ·exact hx.2.2 y hy (h1.trans e)
 have DP:=hx.1;rw [← Ib] at bR
 show SqS nb (zcJ st {Chg.nil {st.c with times:=t} (st.seq+1) with vol:=1,puts:=zrd st.l st.seq o} x) _ _
 rw [← Ib];refine ⟨bR, ?_,h.clk, ?_, ?_, ?_, ?_⟩
 ·show g.seq=m+1
  omega
 ·show ∃y,g.c.find 1=some y∧_
  rw [SX];exact h.vol
 ·intro b hb
  show ((tb b (G b) o).1=none↔atL (zch g x st.l) 1 b g.seq=0)
  rw [BF,NG,AF b hb,Nz b hb];have h1:=h.hole b hb;rw [← PX b hb] at h1;unfold tb
  by_cases hk:o.k=4
  ·rw [if_pos hk,if_pos hk]
   by_cases e:o.b.toNat=b
   ·rw [if_pos e,if_pos e];simp [puA];omega
   ·rw [if_neg e,if_neg e];exact h1
  ·rw [if_neg hk,if_neg hk]
   by_cases e:o.b.toNat≤b∧b < o.b.toNat+o.n.toNat
   ·rw [if_pos e];refine ⟨fun _=> ?_,fun _=> rfl⟩
    by_cases h0:atL st.l 1 b st.seq=0
    ·rw [if_neg (fun hh=> hh.2 h0)];exact (PX b hb).trans h0
    ·rw [if_pos ⟨e,h0⟩]
     rfl
   ·rw [if_neg e,if_neg (fun hh=> e hh.1)];exact h1
 ·intro b hb d hd
  show blP st.bl x g.puts (atL (zch g x st.l) 1 b g.seq)=d
  rw [BF,Jg,NG,AF b hb,Nz b hb];have h1:=h.data b hb;unfold tb at hd
  by_cases hk:o.k=4
  ·rw [if_pos hk];rw [if_pos hk] at hd
   by_cases e:o.b.toNat=b
   ·rw [if_pos e];rw [if_pos e] at hd;simp only [Option.some.injEq] at hd;unfold zrd;rw [if_neg (by omega)]
    simp [puA,blP,hd]
   ·rw [if_neg e];rw [if_neg e] at hd;simp only;rw [PX b hb,zjJ (CQ b)];exact h1 d hd
  ·rw [if_neg hk];rw [if_neg hk] at hd
   by_cases e:o.b.toNat≤b∧b < o.b.toNat+o.n.toNat
   ·rw [if_pos e] at hd
    cases hd
   ·rw [if_neg (fun hh=> e hh.1)];rw [if_neg e] at hd;simp only;rw [PX b hb,zjJ (CQ b)];exact h1 d hd
 ·show (zch g x st.l).length=_
  rw [NG,zr9 (by omega) _ h.inv.rise (fun p hp=> ⟨by have:=QI p hp;omega,fun hm=> by
   obtain ⟨e,he,hk⟩:=List.mem_map.1 hm;have h1:=(h.inv.keys e he).1;rw [hk,zdm (by omega)] at h1
   omega⟩) GK,h.len,← List.length_map (f:=fun p:Pu=> p.b),← zsW _ GK (fun b hb=> by obtain ⟨p,hp,rfl⟩:=List.mem_map.1 hb;exact QI p hp),← zsV]
  refine zr5 fun b hb=> ?_;have Cb:b ∈ (zrd st.l st.seq o).map (·.b)↔((zrd st.l st.seq o).find? fun p=> decide (p.b=b)).isSome=true:=by
   rw [List.find?_isSome,List.mem_map];simp
  rw [Nz b hb] at Cb;have h1:=h.hole b hb;unfold tb
  by_cases hk:o.k=4
  ·rw [if_pos hk] at Cb ⊢
   by_cases e:o.b.toNat=b
   ·rw [if_pos e] at Cb ⊢;rw [if_pos (Cb.2 rfl)]
   ·rw [if_neg e] at Cb ⊢;rw [if_neg (fun hh=> by have:=Cb.1 hh;cases this)]
    rfl
  ·rw [if_neg hk] at Cb ⊢
   by_cases e:o.b.toNat≤b∧b < o.b.toNat+o.n.toNat
   ·rw [if_pos e]
    by_cases h0:atL st.l 1 b st.seq=0
    ·rw [if_neg (fun hh=> hh.2 h0)] at Cb;rw [if_neg (fun hh=> by have:=Cb.1 hh;cases this),h1.2 h0]
     rfl
    ·rw [if_pos ⟨e,h0⟩] at Cb;rw [if_pos (Cb.2 rfl),if_pos]
     cases G6:(G b).1 with
     | none=> exact absurd (h1.1 G6) h0
     | some d=> rfl
   ·rw [if_neg e];rw [if_neg (fun hh=> e hh.1)] at Cb;rw [if_neg (fun hh=> by have:=Cb.1 hh;cases this)]
    rfl
theorem SqS.read {nb m:Nat} {st:PS} {G:Nat→Tb} (h:SqS nb st m G) {b:Nat} (hb:b < 32):zly st 1 (b:Int)=(0,(G b).1.getD (List.replicate 64 0)):=by
 obtain ⟨x,hf,hx⟩:=h.vol;unfold zly;rw [hf];simp only [hx];rw [if_neg (by omega),Int.toNat_natCast]
 refine congrArg (fun d=> (0,d)) ?_;unfold zbX
 show (if atL st.l 1 b st.seq=0 then _ else _)=_
 have h1:=h.hole b hb
 cases hg:(G b).1 with
 | none=> rw [if_pos (h1.1 hg)];rfl
 | some d=>
   rw [if_neg (fun h0=> by have:=h1.2 h0;rw [hg] at this;cases this)]
   exact h.data b hb d hg
theorem zs1 {b:Nat}:∀(t:List PO) (q:Tb),(∀d,q.1=some d→d.length=64)→∀d,(t.foldl (tb b) q).1=some d→d.length=64
 | [],_,h=> h
 | o ::t,q,h=> zs1 t _ fun d hd=> by
   unfold tb at hd
   split at hd
   ·split at hd
    ·simp only [Option.some.injEq] at hd;rw [← hd,zaK]
    ·exact h d hd
   ·split at hd
    ·cases hd
    ·exact h d hd
def zrT:PO:=⟨1,0,0,0,32,0, [], []⟩
def stZ:PS:=⟨⟨0,0,0,0, [], [], [], [], []⟩, [],fun _=> [],0,0⟩
theorem zr1:zc9 0 0 stZ.c stZ.l stZ.seq stZ.clock zrT=(0,{Chg.nil ⟨1,0,0,0, [⟨1,1, [(1,32)]⟩], [], [], [], [(1,0)]⟩ 1 with id:=1}):=rfl
theorem SqS.new (nb x:Nat) (hx:x≤nb):SqS nb (zcJ stZ (zc9 0 0 stZ.c stZ.l stZ.seq stZ.clock zrT).2 x) 1 fun _=> (none,0):=by
 have h0:StI nb stZ 0:=⟨CtI.nil zl,List.Pairwise.nil,by decide,by decide,fun e he=> (by cases he),zl,⟨[],zl,fun e he=> (by cases he)⟩⟩
 obtain ⟨-,LA,Mr⟩:=zem h0.ct zr1;have bR:=zhu (x:=x) h0 LA Mr hx;exact ⟨bR,rfl,rfl,⟨⟨1,1, [(1,32)]⟩,rfl,rfl⟩,fun b hb=> ⟨fun _=> rfl,fun _=> rfl⟩,fun b hb d hd=> (by cases hd),rfl⟩
end
end Go.Proofs.YtfldlfladcfggaaGreat
