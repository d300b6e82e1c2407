/- Lemmas of the walks, merged and pressed by press.py. Conditions: those of each theorem. -/
import Derived.Test.YtaoceecfjlkmdaaGreatM19
import Derived.Test.YtaoceecfjlkmdaaGreatM3
import Derived.Deep.RegionLaw
import Derived.Laws.MakeOwn
import Derived.Test.YtaoceecfjlkmdaaGreatM18
import Derived.Laws.OwnMore
set_option maxRecDepth 100000
set_option maxHeartbeats 64000000
set_option linter.all false
namespace Go.Proofs.YtaoceecfjlkmdaaGreat
open Tryz
variable {K:Act→World→Prop} {l:List En} {acc:List UInt8} {B C b base c cap clock ev g k m n nb s size win x:Nat} {Q Q':Nat→Prop} {a:Option Addr} {o:PO} {P:Program} {e t:TypeId} {v v':Value} {w w':World}
section
structure PS where
 c:Ct
 l:List En
 bl:Nat->List UInt8
 seq:Nat
 clock:Nat
def zbX (bl:Nat->List UInt8) (a:Nat):List UInt8:=if a=0 then List.replicate 64 0 else bl a
def zbo (st:PS) (v b:Int) (t:Nat):Nat × List UInt8:=
 if (st.c.sizeAt v t st.seq).1≠0 then ((st.c.sizeAt v t st.seq).1, []) else if b < 0\/((st.c.sizeAt v t st.seq).2:Int)<=b then (41, []) else (0,zbX st.bl (atL st.l v.toNat b.toNat t))
def zly (st:PS) (v b:Int):Nat × List UInt8:=match st.c.find v with
 | none=> (40, [])
 | some x=> if b < 0\/(zas x.sizes:Int)<=b then (41, []) else (0,zbX st.bl (atL st.l v.toNat b.toNat st.seq))
def blP (bl:Nat->List UInt8) (x:Nat):List Pu->Nat->List UInt8
 | [],a=> bl a
 | p::ps,a=> match p.d with
   | none=> blP bl x ps a
   | some d=> if a=x then d else bl a
def zcJ (st:PS) (g:Chg) (x:Nat):PS:={st with c:=g.c,l:=zch g x st.l,bl:=blP st.bl x g.puts,seq:=g.seq}
def zlK (st:PS) (d:Nat):PS:=if d<=18446744073709551615 - st.clock then {st with clock:=st.clock+d} else st
def zal (win ev:Nat) (st:PS) (o:PO) (x:Nat):PS:=
 if o.k=18 then zlK st o.pt.toNat
 else if (zc9 win ev st.c st.l st.seq st.clock o).1≠0 then st else zcJ st (zc9 win ev st.c st.l st.seq st.clock o).2 x
theorem zdv {α:Type} (f g:α->Bool) (l:List α):(l.filter f).filter g=l.filter fun x=> f x && g x:=by
 rw [List.filter_filter];exact List.filter_congr fun x _=> Bool.and_comm _ _
theorem zc3 {c:Ct}:∀(vs:List Vl) {l:List En} (_:zac l),∃f,zaO c vs l=l.filter f
 | [],l,_=> ⟨fun _=> true,(List.filter_eq_self.2 fun _ _=> rfl).symm⟩
 | v::vs,l,hr=> by
   have e1:zao l (zcQ l v.id (c.ofL v.id) c.fl)=l.filter fun x=> !zkY l v.id (c.ofL v.id) c.fl x:=by rw [zmx hr,zcu hr]
   obtain ⟨f,hf⟩:=zc3 (c:=c) vs (l:=l.filter fun x=> !zkY l v.id (c.ofL v.id) c.fl x) (hr.filter _);refine ⟨fun x=> (!zkY l v.id (c.ofL v.id) c.fl x) && f x, ?_⟩;unfold zaO at *;rw [List.foldl_cons,e1,hf,zdv]
theorem zfy {v:Nat}:∀(ps:List Pu) {l:List En} (_:zac l),zac (zaP l v s x ps)
 | [],_,hr=> hr
 | _::ps,_,hr=> zfy ps (zc8 hr)
theorem zcp {g:Chg}   (hr:zac l):∃f,zch g x l=(zaP l g.vol g.seq x g.puts).filter f:=by
 have h2:=zfy (v:=g.vol) (s:=g.seq) (x:=x) g.puts hr;unfold zch;have h3:∃f,(if g.drop=0 then zaP l g.vol g.seq x g.puts else zao (zaP l g.vol g.seq x g.puts) (zdE (zaP l g.vol g.seq x g.puts) g.drop))=(zaP l g.vol g.seq x g.puts).filter f:=by
  split
  ·exact ⟨fun _=> true,(List.filter_eq_self.2 fun _ _=> rfl).symm⟩
  exact ⟨_,by unfold zdE;rw [zcu h2]⟩
 obtain ⟨f,hf⟩:=h3;simp only;rw [hf]
 split
 ·obtain ⟨f',Vi⟩:=zc3 (c:=g.c) g.c.vols (h2.filter f);exact ⟨_,by rw [Vi,zdv]⟩
 exact ⟨f,rfl⟩
def puA (x:Nat) (p:Pu):Nat:=match p.d with
 | none=> p.a
 | some _=> x
theorem zei (l:List En) (v s x:Nat) (p:Pu) (ps:List Pu):zaP l v s x (p::ps)=zaP (zaR l (za9 v p.b s,puA x p)) v s x ps:=rfl
theorem zeY {v:Nat}:∀(ps:List Pu) {l:List En} {e:En},e ∈ zaP l v s x ps->e ∈ l\/∃p ∈ ps,e=(za9 v p.b s,puA x p)
 | [],_,_,h=> .inl h
 | p::ps,l,e,h=> by
   rw [zei] at h;rcases zeY ps h with h | ⟨q,hq,rfl⟩
   ·rcases zdX h with rfl | h
    ·exact .inr ⟨p,List.mem_cons_self,rfl⟩
    exact .inl h
   exact .inr ⟨q,List.mem_cons_of_mem _ hq,rfl⟩
theorem zeX {v s x:Nat}:∀(ps:List Pu) {l:List En} (_:zac l),(zaP l v s x ps).length<=l.length+ps.length
 | [],_,_=> zl
 | p::ps,l,hr=> by
   rw [zei];have h1:=zeX (v:=v) (s:=s) (x:=x) ps (zc8 (e:=(za9 v p.b s,puA x p)) hr);have h2:=zeZ l (za9 v p.b s,puA x p) hr;have h3:(if (zdi l (za9 v p.b s)).isSome then 0 else 1)<=1:=by split <;> omega
   simp only at h2;rw [List.length_cons]
   omega
theorem zku {g:Chg}   (hr:zac l):zac (zch g x l):=by
 obtain ⟨f,hf⟩:=zcp (g:=g) (x:=x) hr;rw [hf];exact (zfy g.puts hr).filter f
theorem zhv {g:Chg}   (hr:zac l) {e:En} (he:e ∈ zch g x l):e ∈ l\/∃p ∈ g.puts,e=(za9 g.vol p.b g.seq,puA x p):=by
 obtain ⟨f,hf⟩:=zcp (g:=g) (x:=x) hr;rw [hf] at he;exact zeY _ (List.mem_filter.1 he).1
theorem zlZ {g:Chg}   (hr:zac l):(zch g x l).length<=l.length+g.puts.length:=by
 obtain ⟨f,hf⟩:=zcp (g:=g) (x:=x) hr;rw [hf];exact zs (List.length_filter_le _ _) (zeX _ hr)
theorem zg7 {g:Chg}  (h:zfJ l g s k) {p:Pu} (hp:p ∈ g.puts):puA x p=0\/(∃e ∈ l,e.2=puA x p)\/puA x p=x:=by
 unfold puA
 cases hd:p.d with
 | none=>
   rcases h.held p hp hd with h0 | h0
   ·exact .inl h0
   exact .inr (.inl h0)
 | some d=> exact .inr (.inr rfl)
structure StI (nb:Nat) (st:PS) (k:Nat):Prop where
 ct:CtI st.c st.seq st.clock
 rise:zac st.l
 seq:st.seq < 18446744073709551616
 clock:st.clock < 18446744073709551616
 keys:∀e ∈ st.l,zp e.1<=st.seq/\zo e.1 < 32/\zj e.1<=65535/\e.2<=nb
 len:st.l.length<=32 * k
 used:∃U:List Nat,U.length<=k/\∀e ∈ st.l,e.2=0\/e.2 ∈ U
theorem StI.fit {st:PS}  (h:StI nb st k) (hn:nb < 4294967296):Fit st.l:=fun x hx=> by
 have h1:=h.keys x hx;have h2:=zcc x.1;have h3:=zec x.1;have h4:=zmG x.1;unfold za9 at h2
 omega
theorem StI.more {st:PS}  (h:StI nb st k) (hm:k<=m):StI nb st m:=
 ⟨h.ct,h.rise,h.seq,h.clock,h.keys,by have:=h.len;omega,by obtain ⟨U,h1,h2⟩:=h.used;exact ⟨U,ud,h2⟩⟩
def zcn (nb:Nat) (l:List En) (x:Nat):Prop:=0 < x/\x<=nb/\∀e ∈ l,e.2≠x
theorem zhu {st:PS} {g:Chg} (h:StI nb st k) (hs:st.seq≠18446744073709551615) (hg:zfJ st.l g (st.seq+1) st.clock) (hx:x<=nb):StI nb (zcJ st g x) (k+1):=by
 have h1:=h.seq;refine ⟨by have:=hg.c;rw [<- hg.seq] at this;exact this,zku h.rise,by have:=hg.seq;show g.seq < _;omega,h.clock,fun e he=> ?_, ?_, ?_⟩
 ·rcases zhv h.rise he with he | ⟨p,hp,rfl⟩
  ·have h8:=h.keys e he;have h9:=hg.seq;refine ⟨?_,h8.2⟩
   show zp e.1<=g.seq
   omega
  have h2:=hg.blk p hp;have h3:=hg.seq;have h4:=hg.vol;refine ⟨?_, ?_, ?_, ?_⟩
  ·show zp (za9 g.vol p.b g.seq)<=g.seq
   rw [zdm ud];exact zl
  ·show zo (za9 g.vol p.b g.seq) < 32
   rw [zdl ud ud];exact h2
  ·show zj (za9 g.vol p.b g.seq)<=65535
   rw [zeV ud ud];exact h4
  show puA x p<=nb
  rcases zg7 (x:=x) hg hp with h5 | ⟨e,he,h5⟩ | h5
  ·omega
  ·have:=(h.keys e he).2.2.2;omega
  omega
 ·have:=zlZ (g:=g) (x:=x) h.rise;have:=hg.len;have:=h.len
  show (zch g x st.l).length<=_
  omega
 obtain ⟨U,hU,hm⟩:=h.used;refine ⟨x::U,uo,fun e he=> ?_⟩;rcases zhv h.rise he with he | ⟨p,hp,rfl⟩
 ·rcases hm e he with h0 | h0
  ·exact .inl h0
  exact .inr (List.mem_cons_of_mem _ h0)
 show puA x p=0\/puA x p ∈ _
 rcases zg7 (x:=x) hg hp with h5 | ⟨e,he,h5⟩ | h5
 ·exact .inl h5
 ·rw [<- h5];rcases hm e he with h0 | h0
  ·exact .inl h0
  exact .inr (List.mem_cons_of_mem _ h0)
 exact .inr (by rw [h5];exact List.mem_cons_self)
theorem zox {st:PS} (h:StI nb st k) (d:Nat):StI nb (zlK st d) k:=by
 unfold zlK
 split
 ·have:=h.clock;exact ⟨h.ct.later zl uh,h.rise,h.seq,uah,h.keys,h.len,h.used⟩
 exact h
theorem zhh {st:PS}  (h:StI nb st k) (hx:x<=nb):StI nb (zal win ev st o x) (k+1):=by
 unfold zal
 split
 ·exact (zox h _).more ud
 split
 ·exact h.more ud
 rename_i _ h0
 obtain ⟨-,hs,hg⟩:=zem (window:=win) h.ct (g:=(zc9 win ev st.c st.l st.seq st.clock o).2) (every:=ev) (o:=o) (l:=st.l) (Prod.ext uan rfl);exact zhu h hs hg hx
theorem zlW:∀(n:Nat) (U:List Nat),(∀x,0 < x/\x<=n->x ∈ U)->n<=U.length
 | 0,_,_=> Nat.zero_le _
 | n+1,U,h=> by
   have h1:=h (n+1) ud;have h2:=zlW n (U.erase (n+1)) fun x hx=> (List.mem_erase_of_ne ud).2 (h x ud);rw [List.length_erase_of_mem h1] at h2;have:=List.length_pos_of_mem h1
   omega
theorem zhS {st:PS} (h:StI nb st k) (hk:k < nb):∃x,zcn nb st.l x:=by
 obtain ⟨U,hU,hm⟩:=h.used;have:∃x ∈ List.range' 1 nb,x ∉ U:=by
  refine Classical.byContradiction fun hc=> ?_;have AP:∀x ∈ List.range' 1 nb,x ∈ U:=fun x hx=> Classical.byContradiction fun hu=> hc ⟨x,hx,hu⟩;have h1:=zlW nb U fun x hx=> AP x (List.mem_range'_1.2 ud)
  omega
 obtain ⟨x,hx,hu⟩:=this;rw [List.mem_range'_1] at hx;refine ⟨x,ud,ud,fun e he e2=> ?_⟩;rcases hm e he with h0 | h0
 ·omega
 exact hu (by rw [<- e2];exact h0)
theorem zjJ {bl:Nat->List UInt8} {a:Nat} (h:a≠x):∀ps,blP bl x ps a=bl a
 | []=> rfl
 | p::ps=> by
   unfold blP
   cases p.d with
   | none=> exact zjJ h ps
   | some d=> simp only;rw [if_neg h]
theorem zky (hx:zcn nb l x) (bl:Nat->List UInt8) (ps:List Pu) (v b t:Nat):zbX (blP bl x ps) (atL l v b t)=zbX bl (atL l v b t):=by
 unfold zbX
 split
 ·rfl
 rename_i h0
 refine zjJ ?_ ps;rcases zeO l v b t with h1 | ⟨e,he,h1⟩
 ·exact absurd h1 h0
 rw [<- h1];exact hx.2.2 e he
theorem znv {c:Ct}    {g:Chg} (hg:zc9 win ev c l s clock o=(0,g)):
 ∃g0,zV win ev c l (s+1) clock o=(0,g0)/\g={g0 with c:={g0.c with times:=(za7 g0.c.times (s+1) clock).2}}/\(za7 g0.c.times (s+1) clock).1=0/\(1<=o.k/\o.k<=14)/\o.right=true/\s≠18446744073709551615:=by
 unfold zc9 at hg
 split at hg
 ·cases hg
 rename_i h1
 split at hg
 ·cases hg
 rename_i h2
 simp only at hg
 split at hg
 ·rename_i h3
  rw [hg] at h3;exact absurd rfl h3
 rename_i h3
 split at hg
 ·rename_i h4
  exact absurd (Prod.mk.inj hg).1 h4
 rename_i h4
 refine ⟨(zV win ev c l (s+1) clock o).2,Prod.ext (by simpa using h3) rfl,(Prod.mk.inj hg).2.symm,by simpa using h4, ?_, ?_,h2⟩
 ·exact Classical.byContradiction fun h=> h1 (.inl h)
 cases hr:o.right
 ·exact absurd (.inr hr) h1
 rfl
theorem zlG {st:PS}  (h:StI nb st k) (hx:zcn nb st.l x) {v b:Int} {t:Nat} (ht:t<=st.seq) {d:List UInt8} (hr:zbo (zal win ev st o x) v b t=(0,d)):zbo st v b t=(0,d):=by
 unfold zal at hr
 split at hr
 ·unfold zlK at hr
  split at hr
  ·exact hr
  exact hr
 split at hr
 ·exact hr
 rename_i _ h0
 obtain ⟨g0,he,hg,-,hk,aQ,hs⟩:=znv (win:=win) (ev:=ev) (c:=st.c) (l:=st.l) (s:=st.seq) (clock:=st.clock) (o:=o) (g:=(zc9 win ev st.c st.l st.seq st.clock o).2) (Prod.ext uan rfl);obtain ⟨-,-,G7⟩:=zem (window:=win) (every:=ev) (c:=st.c) (l:=st.l) (s:=st.seq) (clock:=st.clock) (o:=o) (g:=(zc9 win ev st.c st.l st.seq st.clock o).2) h.ct (Prod.ext uan rfl);generalize (zc9 win ev st.c st.l st.seq st.clock o).2=g at *;obtain ⟨Hw,Cu⟩:=zkS h.ct he v t ht;have Ae:zeI st.c g.c v t:=by rw [hg];exact Hw.trans (zkw _ _ _ _)
 have AE:=h.seq;have BF:=G7.seq;have hP:=PoR.of hk aQ;unfold zbo at hr ⊢;have Jr:(zcJ st g x).seq=st.seq+1:=BF;rw [Jr] at hr;have hc:(zcJ st g x).c=g.c:=rfl;have hl:(zcJ st g x).l=zch g x st.l:=rfl;have E8:(zcJ st g x).bl=blP st.bl x g.puts:=rfl;rw [hc,hl,E8] at hr
 split at hr
 ·rename_i h1;exact absurd (Prod.mk.inj hr).1 h1
 rename_i h1
 have hm:g.c.may v t (st.seq+1)=true:=by
      unfold Ct.sizeAt at h1
      cases hf:g.c.find v with
      | none=> rw [hf] at h1;simp at h1
      | some y=>
        rw [hf] at h1;simp only at h1
        cases hz:zdD y.sizes t with
        | none=> rw [hz] at h1;simp at h1
        | some n=>
          rw [hz] at h1;simp only at h1
          cases Tw:g.c.may v t (st.seq+1)
          ·rw [Tw] at h1;simp at h1
          rfl
 obtain ⟨DT,AR,Ew⟩:=Ae.may ht hm;rw [AR] at hr h1;rw [if_neg h1]
 split at hr
 ·cases hr
 rename_i h2
 rw [if_neg h2];have hv:0<=v:=by
  obtain ⟨y,hy⟩:∃y,g.c.find v=some y:=by
   unfold Ct.may at hm
   cases hf:g.c.find v with
   | none=> rw [hf] at hm;cases hm
   | some y=> exact ⟨y,rfl⟩
  have:=(za0 hy).2
  omega
 have GK : g.drop=0\/v.toNat≠g.drop:=by
  have hd:g.drop=g0.drop:=by rw [hg]
  rcases Cu with h3 | ⟨h3,h4⟩ | h3
  ·exact .inl (by rw [hd];exact h3)
  ·refine .inr fun e=> ?_;have h5:v=o.v:=ud;rw [h5] at hm;unfold Ct.may at hm;have h6:g.c.find o.v=none:=by rw [hg];exact h4
   rw [h6] at hm
   cases hm
  refine .inl ?_
  -- an operation whose volume is below 1 deletes none
  rw [hd]
  by_cases h2k:o.k=2
  ·have:=hP.vol (.inl h2k);omega
  unfold zV at he;have key:∀{r:Nat × Chg},(∀q,r=(0,q)->q.drop=0)->r=(0,g0)->g0.drop=0:=fun h1 h2=> h1 _ h2
  revert he
  split
  ·intro he;unfold zb1 at he;rw [<- (Prod.mk.inj he).2];rfl
  split
  ·intro he;unfold za6 at he
   split at he
   ·cases he
   simp only at he
   split at he
   ·rename_i h9;exact absurd (Prod.mk.inj he).1 h9
   rw [<- (Prod.mk.inj he).2];rfl
  split
  ·intro he;unfold zaz at he
   split at he
   ·cases he
   split at he
   ·split at he
    ·cases he
    rw [<- (Prod.mk.inj he).2];rfl
   split at he
   ·cases he
   rw [<- (Prod.mk.inj he).2];rfl
  split
  ·intro he;unfold zaU at he;rw [<- (Prod.mk.inj he).2];rfl
  split
  ·intro he
   split at he
   ·cases he
   rw [<- (Prod.mk.inj he).2];rfl
  split
  ·intro he;unfold zaU at he;rw [<- (Prod.mk.inj he).2];rfl
  split
  ·intro he
   split at he
   ·cases he
   rw [<- (Prod.mk.inj he).2];rfl
  split
  ·intro he;unfold zcW at he;simp only at he
   split at he
   ·rename_i h9;exact absurd (Prod.mk.inj he).1 h9
   split at he
   ·cases he
   rw [<- (Prod.mk.inj he).2];rfl
  split
  ·intro he;rw [<- (Prod.mk.inj he).2];rfl
  intro he;unfold zcO at he;simp only at he
  split at he
  ·rename_i h9;exact absurd (Prod.mk.inj he).1 h9
  split at he
  ·rename_i h9;exact absurd (Prod.mk.inj he).1 h9
  rw [<- (Prod.mk.inj he).2];rfl
 have Mj:b.toNat < 4294967296:=by
  have:=Ct.sizeAt_fit h.ct (v:=v) (t:=t) (last:=st.seq) (n:=(st.c.sizeAt v t st.seq).2) (Prod.ext uao rfl)
  omega
 have AF:=znS (g:=g) (x:=x) h.rise ud (u:=v.toNat) (b:=b.toNat) (s:=t) Mj ud (fun p hp=> by have:=G7.blk p hp;omega) GK (fun _=> by rw [Int.toNat_of_nonneg hv];exact Ew)
 rw [AF,zky hx] at hr;exact hr
end
section
open Go.RowKit
theorem zig {P:Program} {w:World} {src dst e:TypeId} {B o n:Nat} {cap:Nat} {l:List UInt8} (hl:l.length=n) (hs:P.underlying src=some (.slice e)) (he:P.underlying e=some (.int .u8)) (hd:P.underlying dst=some .string)
 (hc:∀j c,l[j]? =some c->w.cell? ⟨B,o+j,none⟩=some (.int .u8 (c.toNat:Int))):
 (convert src dst (.slice (some ⟨B,o,none⟩) n cap)).run P w= .ok (.string ⟨l.toArray⟩) w:=by
 subst hl;refine run_convert_bytes_back w src dst e ⟨B,o,none⟩ cap l hs he hd fun j hj=> ?_;rw [<- hc j _ (ze hj)]
 congr 1
 unfold Addr.add
 split <;> simp_all
def Bs (w:World) (a:Option Addr) (n:Nat) (l:List UInt8):Prop:=Is .u8 w a n (l.map fun c=> (c.toNat:Int))
theorem zi2:(prog.info? 5).map (fun i=> (i.zero,i.size,i.bytes))=some (some (ω 0),1,1):=ue
theorem zdn (l:List UInt8) (k:Nat) (h:k < l.length):(l.map fun c=> (c.toNat:Int)).getD k 0=(l[k].toNat:Int):=by
 rw [List.getD_eq_getElem?_getD,List.getElem?_map,ze h];rfl
def zc (l:List UInt8):List Value:=l.map fun c=> ω c.toNat
theorem zbY (a b:List UInt8):zc (a++b)=zc a++zc b:=by simp [zc]
theorem zdp {c:List Value} (h:w.ownsRow base e size v n c) (h0:0 < n):∃g cap,v=σ (some ⟨g,0,()⟩) n cap:=by
 rcases h.2 with ⟨rfl,h2⟩ | ⟨g,cap,cur,rfl,_⟩
 ·omega
 exact ⟨_,_,rfl⟩
theorem Bs.cell {l:List UInt8} (h:Bs w a n l) (k:Nat) (hk:k < n):
 ∃(b o:Nat) (c:UInt8),a=some (b o ())/\l[k]? =some c/\w (b (o+k) ())=some (ω c.toNat)/\b < ↑w:=by
 have hl:l.length=n:=by have:=h.len;simpa using this
 obtain ⟨b,o,ha,hc⟩:=h.at ud;have GB:=hc k hk;rw [zdn l k ud] at GB;exact ⟨b,o,l[k],ha,ze ud,GB,zb w _ GB⟩
theorem Bs.length {l:List UInt8} (h:Bs w a n l):l.length=n:=by have:=h.len;simpa using this
theorem Bs.none' (a:Option Addr):Bs w a 0 []:=⟨rfl,fun i x hx=> by simp at hx⟩
theorem ziw (Af:w.ownsRow base 5 1 v acc.length (zc acc)) {o:Nat} (c:Nat) {l:List UInt8} (hs:Bs w (some (b o ())) m l)
 (Ac:acc.length+m<=100000000000) (Cx:base<=↑w):
 ∃v' w',(Builtin.append_ #[33,33] 33 #[v,σ (some (b o ())) m c]).run prog w= .ok v' w'/\w'.ownsRow base 5 1 v' (acc++l).length (zc (acc++l))/\w.grownBy w' v.ownBlock:=by
 obtain ⟨i0,hi,AG,Ai,Ax⟩:=info_parts zi2;have hl:=hs.length;obtain ⟨v',w',hr,h2,h3,_⟩:=run_append_own (P:=prog) w base 33 33 5 i0 (ω 0) 1 1 Tryz.underlying33 hi AG Ai Ax rfl uf v acc.length (zc acc) Af (b o ()) m c (zc l) (by simp [zc,hl]) (fun j u hu=> by
  have hj:j < l.length:=by have:=(zi hu).1;simpa [zc] using this
  obtain ⟨b',o',ch,ha,hc,Bn,_⟩:=hs.cell j ud
  cases ha
  rw [add_plain',Bn];simp only [zc,List.getElem?_map,hc,Option.map_some,Option.some.injEq] at hu;rw [hu]) (fun u hu=> by simp [zc] at hu;obtain ⟨x,_,rfl⟩:=hu;rfl) ur ud Cx
 refine ⟨v',w',hr, ?_,h3⟩;rw [List.length_append,zbY,hl];exact h2
 where add_plain' {b o n:Nat}:((b o ()):Addr).add n=(b (o+n) ()):=by unfold Addr.add;split <;> simp_all
theorem znR (Af:w.ownsRow base 5 1 v acc.length (zc acc)) (z:Int) (c:UInt8) (hz:z=(c.toNat:Int))
 (Ac:acc.length+1<=100000000000) (Cx:base<=↑w):
 ∃v' w',(Builtin.append_ #[33,33] 33 #[v,σ (some ↑w) 1 1]).run prog (w.alloc (.cells #[ω z] 5))= .ok v' w'/\w'.ownsRow base 5 1 v' (acc++ [c]).length (zc (acc++ [c]))/\w.grownBy w' v.ownBlock:=by
 obtain ⟨i0,hi,AG,Ai,Ax⟩:=info_parts zi2;obtain ⟨v',w',BE,ET,BN,_⟩:=zlX (P:=prog) Tryz.underlying33 hi AG Ai Ax rfl uf Af 1 [ω z] rfl (by simp [Value.oneCell']) ur ud Cx
 refine ⟨v',w',BE, ?_,BN⟩;subst hz;rw [List.length_append,zbY];exact ET
theorem zl3 {o:Nat} (c:Nat) {l:List UInt8} (h:Bs w (some (b o ())) n l) (hn:n<=10000000000):
 ∃v' w',(Builtin.append_ #[33,33] 33 #[σ (some ↑w) 0 0,σ (some (b o ())) n c]).run prog (w.alloc (.cells #[] 5))= .ok v' w'/\w'.ownsRow ↑w 5 1 v' l.length (zc l)/\θ w w w':=by
 have Aq:θ w w (w.alloc (.cells #[] 5)):=zr.alloc zl _;have Af:(w.alloc (.cells #[] 5)).ownsRow ↑w 5 1 (σ (some ↑w) 0 0) ([]:List UInt8).length (zc []):=World.ownsRow_made w #[] 0 zl (Nat.zero_le _) uh;obtain ⟨v',w',BE,ho,hg⟩:=ziw Af c (h.below Aq zl) uo Aq.size;rw [List.nil_append] at ho;exact ⟨v',w',BE,ho,Below.own Aq Af hg zl Aq.size⟩
theorem zfG {ops:Array Oper} {o:Oper} {a:Act}  {Q:Exit->Act->World->Prop} {E:Prop} (hw:Region.wanted o (yielded ops a.tmps)=true) (s x:Operand) (t:TypeId)
 (ho:o.op= .call {callee:= .builtin .append,args:=#[s,x],argTypes:=#[t,t]})  
 (Be:(Builtin.append_ #[t,t] o.type #[a.eval s,a.eval x]).run P w= .ok v' w') (h:K (a.put o.dst v') w'):if Region.wanted o (yielded ops a.tmps)=true then Oper.wp P o a w K Q else E:=by
 rw [if_pos hw];unfold Oper.wp execOp;simp only [ho,resolve,invoke,builtin,Sem.run_bind,Sem.run_pure,Result.andThen_ok,List.map_toArray,List.map_cons,List.map_nil,Be];exact h
theorem zc0 {xs:List Value} (h:w.ownsRow B e size v n xs) (hC:C<=B):w.ownsRow C e size v n xs:=by
 refine ⟨h.1, ?_⟩;rcases h.2 with h2 | ⟨g,cap,cur,hv,hb,r⟩
 ·exact .inl h2
 exact .inr ⟨g,cap,cur,hv,ud,r⟩
theorem zok {xs:List Value} (h:w.ownsRow base e size v n xs) (hb:θ w w w'):w'.ownsRow base e size v n xs:=by
 refine ⟨h.1, ?_⟩;rcases h.2 with h2 | ⟨g,cap,cur,hv,Bc,hg,hr⟩
 ·exact .inl h2
 have BF:g < ↑w:=(zg hg).1;exact .inr ⟨g,cap,cur,hv,Bc,by rw [hb.block g BF];exact hg,hr⟩
theorem zmV {l:List UInt8} (h:w.ownsRow base 5 1 v n (zc l)):∃a cap,v=σ a n cap/\Bs w a n l/\l.length=n:=by
 have hl:l.length=n:=by have:=h.1;simpa [zc] using this
 rcases h.2 with ⟨rfl,rfl⟩ | ⟨g,cap,cur,rfl,Bc,hg,Ge,Ce,Fo,CY⟩
 ·have:l= []:=List.eq_nil_of_length_eq_zero hl;subst this;exact ⟨none,0,rfl,⟨rfl,fun i x hx=> by simp at hx⟩,rfl⟩
 refine ⟨some ↑g,cap,rfl,Is.mk' (by simpa using hl) fun i hi=> ?_,hl⟩
 have:=h.cells (g:=g) rfl i (ω (l[i].toNat)) (by simp [zc,ze (show i < l.length by omega)])
 rw [zdn l i ud,<- this]
 congr 1
 unfold Addr.add
 split <;> simp_all
theorem Bs.str {l:List UInt8} (h:Bs w a n l):
 (convert 33 9 (σ a n cap)).run prog w= .ok (.string ⟨l.toArray⟩) w:=by
 have hl:l.length=n:=by have:=h.len;simpa using this
 by_cases h0:n=0
 ·subst h0;have:l= []:=List.eq_nil_of_length_eq_zero hl;subst this
  cases a with
  | none=> rw [run_convert_bytes_string w 33 9 5 none 0 cap Tryz.underlying33 Tryz.underlying5 Tryz.underlying9];rfl
  | some x=> exact run_convert_bytes_back w 33 9 5 x cap [] Tryz.underlying33 Tryz.underlying5 Tryz.underlying9 fun j hj=> by simp at hj
 obtain ⟨b,o,rfl,Bn⟩:=h.at ud;refine zig hl Tryz.underlying33 Tryz.underlying5 Tryz.underlying9 fun j c hj=> ?_;have kH:j < l.length:=(zi hj).1;rw [Bn j ud,zdn l j kH];rw [ze kH] at hj;simp only [Option.some.injEq] at hj;rw [hj]
theorem zpB (a b:List UInt8):((⟨a.toArray⟩:ByteArray).toList==(⟨b.toArray⟩:ByteArray).toList)=(a==b):=by
 rw [ByteArray.toList_eq,ByteArray.toList_eq]
theorem ziC (a a':Option Addr) (n n' cap cap':Nat) (l l':List UInt8) (w:World) (h:Bs w a n l) (h':Bs w a' n' l'):
 χ 11 #[σ a n cap,σ a' n' cap'] w fun e w'=> e=ρ (.bool (l==l'))/\w=w':=by
 have c1:=h.str (cap:=cap);have c2:=h'.str (cap:=cap');have hs:=zpB l l';generalize (⟨l.toArray⟩:ByteArray)=s at *;generalize (⟨l'.toArray⟩:ByteArray)=s' at *;have HS:=zh hs;clear hs;go_in;go_wp2;go_ret;exact ⟨zkd HS.out,rfl⟩
theorem zpZ {xs:List Value} (h:w.ownsRow base e 1 v n xs):∃a cap,v=σ a n cap/\Sl w a n xs/\n<=cap:=by
 have hl:xs.length=n:=by have:=h.1;simpa using this
 rcases h.2 with ⟨rfl,rfl⟩ | ⟨g,cap,cur,rfl,Bc,hg,Ge,Ce,Fo,CY⟩
 ·have:xs= []:=List.eq_nil_of_length_eq_zero hl;subst this;exact ⟨none,0,rfl,⟨rfl,fun i x hx=> by simp at hx⟩,ud⟩
 refine ⟨some ↑g,cap,rfl,⟨hl,fun i x hx=> ⟨g,0,rfl, ?_⟩⟩,Ge⟩;have:=h.cells (g:=g) rfl i x hx;rw [<- this]
 congr 1
 unfold Addr.add
 split <;> simp_all
theorem zjh {l:List UInt8} (h:w.ownsRow base 5 1 v n (zc l)):∃a cap,v=σ a n cap/\Bs w a n l/\n<=cap:=by
 obtain ⟨a,cap,rfl,_,hc⟩:=zpZ h;obtain ⟨a',cap',e,hb,_⟩:=zmV h
 cases e
 exact ⟨a,cap,rfl,hb,hc⟩
theorem Bs.piece {o:Nat} {l:List UInt8} (h:Bs w (some (b o ())) n l) (k m:Nat) (hk:k+m<=n):Bs w (some (b (o+k) ())) m ((l.drop k).take m):=by
 have hl:=h.length;refine Is.mk' uo fun i hi=> ?_;obtain ⟨b',o',c,ha,hc,Bn,_⟩:=h.cell (k+i) ud
 cases ha
 rw [Nat.add_assoc,Bn,zdn _ i uo];have:((l.drop k).take m)[i]'uo=c:=by
  rw [List.getElem_take,List.getElem_drop];rw [ze ud] at hc
  simpa using hc
 rw [this]
theorem Bs.tail {o:Nat} {l:List UInt8} (h:Bs w (some (b o ())) n l) (k:Nat) (hk:k<=n):Bs w (some (b (o+k) ())) (n - k) (l.drop k):=by
 have:=Bs.piece h k (n - k) ud;rw [zk (by rw [List.length_drop,h.length];omega)] at this
 exact this
theorem byte0 (c:UInt8):(c=0->((c.toNat:Int)==0)=true)/\(c≠0->((c.toNat:Int)==0)=false):=by
 refine ⟨fun h=> by rw [h];rfl,fun h=> ?_⟩
 rw [beq_eq_false_iff_ne];intro e;exact h (UInt8.toNat_inj.1 uo)
theorem zfd (b o n cap:Nat) (l:List UInt8) (w:World) (h:Bs w (some (b o ())) n l) (hn:n<=10000000000):
 χ 126 #[σ (some (b o ())) n cap] w fun e w'=> ∃v,e=ρ v/\w'.ownsRow ↑w 5 1 v l.length (zc l)/\θ w w w':=by
 obtain ⟨v',w',BE,ho,hb⟩:=zl3 cap h hn;have q22:(binOp .eql 33 (σ (some (b o ())) n cap) (σ none 0 0)).run prog w= .ok (.bool false) w:=Lib.run_eql_slice_nil w _ _ _ n cap 0 0 Tryz.underlying33;go_in
 go_wp2_with (at_builtin;refine za rfl _ _ _ rfl BE ?_)
 go_ret;exact ⟨v',rfl,ho,hb⟩
def leN (k x:Nat):List UInt8:=(List.range k).map fun i=> UInt8.ofNat (x / 256 ^ i)
theorem zoa (k x:Nat):leN (k+1) x=leN k x++ [UInt8.ofNat (x / 256 ^ k)]:=by simp [leN,List.range_succ]
theorem zed (k x:Nat):(leN k x).length=k:=by simp [leN]
end
section
open Go.RowKit
theorem zY (h:w'.heap[b]? =w.heap[b]?) (o:Nat):w' (b o ())=w (b o ()):=by
 simp only [World.cell?,h]
theorem zgC {o:Nat}  (h:w (b o ())=some v):b < ↑w:=by
 rcases Nat.lt_or_ge b ↑w with h1 | h1
 ·exact h1
 have h2:w.heap[b]? =none:=Array.getElem?_eq_none h1;simp [World.cell?,h2] at h
structure zaM {α:Type} (Q:Nat->Prop) (enc:α->List Value) (k:Nat) (w:World) (a:Option Addr) (l:List α):Prop where
 row:zM enc k w a l.length l
 far:∀b o,a=some (b o ())->l≠ []->¬Q b
section
variable {α:Type} {enc:α→List Value} {k:Nat} {Q:Nat→Prop} {w:World}
theorem zaM.nil (a:Option Addr):zaM Q enc k w a []:=⟨zM.nil enc k w a,fun _ _ _ h=> absurd rfl h⟩
theorem zaM.lt (hk:∀x,(enc x).length=k) (BX:0 < k)  {l:List α} (h:zaM Q enc k w a l) (b o:Nat) (ha:a=some (b o ())) (hl:l≠ []):b < ↑w:=by
 cases l with
 | nil=> exact absurd rfl hl
 | cons x l=>
   obtain ⟨b',o',e,hc⟩:=h.row.2 0 x rfl;rw [ha] at e;simp only [Option.some.injEq,Addr.mk.injEq,and_true] at e;obtain ⟨rfl,rfl⟩:=e;have h0:(enc x)[0]? =some ((enc x)[0]'(by rw [hk];exact BX)):=ze _
   exact zgC (hc 0 _ h0)
theorem zaM.outs (hk:∀x,(enc x).length=k) (BX:0 < k)  {l:List α} (h:zaM Q enc k w a l)   (ho:zD Q w w') (hQ:∀j,Q' j->Q j\/↑w<=j):zaM Q' enc k w' a l:=by
 refine ⟨⟨rfl,fun i r hr=> ?_⟩,fun b o ha hl hq=> ?_⟩
 ·obtain ⟨b,o,e,hc⟩:=h.row.2 i r hr;have hl:l≠ []:=fun e=> by rw [e] at hr;simp at hr
  have hb:=ho.block b (h.lt hk BX b o e hl) (h.far b o e hl);exact ⟨b,o,e,fun j x hx=> (zY hb _).trans (hc j x hx)⟩
 rcases hQ b hq with h1 | h1
 ·exact h.far b o ha hl h1
 have:=h.lt hk BX b o ha hl;omega
theorem zaM.sub {l:List α} (h:zaM Q enc k w a l)  (hQ:∀j,Q' j->Q j):zaM Q' enc k w a l:=⟨h.row,fun b o ha hl hq=> h.far b o ha hl (hQ b hq)⟩
end
def zbZ (m:Mk):List Value:= [υ m.1,υ m.2]
theorem zR (m:Mk):(zbZ m).length=2:=rfl
theorem zcv (m:Mk):∀u ∈ zbZ m,u.oneCell'=true:=fun u hu=> by
 simp [zbZ] at hu;rcases hu with rfl | rfl <;> rfl
def zcm (z:Int):List Value:= [↑z]
theorem zT (z:Int):(zcm z).length=1:=rfl
theorem zjQ (z:Int):∀u ∈ zcm z,u.oneCell'=true:=fun u hu=> by
 simp [zcm] at hu;subst hu;rfl
structure Vh where
 v:Vl
 a:Option Addr
 c:Nat
structure Gh where
 v:Gp
 a:Option Addr
 c:Nat
structure Bh where
 v:Bk
 a:Option Addr
 c:Nat
def zeK (x:Vh):List Value:= [↑x.v.id,υ x.v.born,σ x.a x.v.sizes.length x.c]
def zgQ (x:Gh):List Value:= [↑x.v.id,σ x.a x.v.ms.length x.c]
def zgP (x:Bh):List Value:= [↑x.v.id,υ x.v.seq,σ x.a x.v.ms.length x.c]
theorem zai (x:Vh):(zeK x).length=3:=rfl
theorem zaH (x:Gh):(zgQ x).length=2:=rfl
theorem zaG (x:Bh):(zgP x).length=3:=rfl
theorem zdH (x:Vh):∀u ∈ zeK x,u.oneCell'=true:=fun u hu=> by
 simp [zeK] at hu;rcases hu with rfl | rfl | rfl <;> rfl
theorem zeS (x:Gh):∀u ∈ zgQ x,u.oneCell'=true:=fun u hu=> by
 simp [zgQ] at hu;rcases hu with rfl | rfl <;> rfl
theorem zeR (x:Bh):∀u ∈ zgP x,u.oneCell'=true:=fun u hu=> by
 simp [zgP] at hu;rcases hu with rfl | rfl | rfl <;> rfl
structure znK (Q:Nat->Prop) (w:World) (a:Option Addr) (l:List Vh):Prop where
 row:zaM Q zeK 3 w a l
 sub:∀x ∈ l,zaM Q zbZ 2 w x.a x.v.sizes
structure GpsR (Q:Nat->Prop) (w:World) (a:Option Addr) (l:List Gh):Prop where
 row:zaM Q zgQ 2 w a l
 sub:∀x ∈ l,zaM Q zcm 1 w x.a x.v.ms
structure BksR (Q:Nat->Prop) (w:World) (a:Option Addr) (l:List Bh):Prop where
 row:zaM Q zgP 3 w a l
 sub:∀x ∈ l,zaM Q zcm 1 w x.a x.v.ms
theorem znK.outs {l:List Vh} (h:znK Q w a l) (ho:zD Q w w') (hQ:∀j,Q' j->Q j\/↑w<=j):znK Q' w' a l:=
 ⟨h.row.outs zai uf ho hQ,fun x hx=> (h.sub x hx).outs zR uf ho hQ⟩
theorem GpsR.outs {l:List Gh} (h:GpsR Q w a l) (ho:zD Q w w') (hQ:∀j,Q' j->Q j\/↑w<=j):GpsR Q' w' a l:=
 ⟨h.row.outs zaH uf ho hQ,fun x hx=> (h.sub x hx).outs zT uf ho hQ⟩
theorem BksR.outs {l:List Bh} (h:BksR Q w a l) (ho:zD Q w w') (hQ:∀j,Q' j->Q j\/↑w<=j):BksR Q' w' a l:=
 ⟨h.row.outs zaG uf ho hQ,fun x hx=> (h.sub x hx).outs zT uf ho hQ⟩
structure Ch where
 va:Option Addr
 vc:Nat
 vl:List Vh
 ga:Option Addr
 gc:Nat
 gl:List Gh
 ba:Option Addr
 bc:Nat
 bl:List Bh
 ka:Option Addr
 kc:Nat
 ta:Option Addr
 tc:Nat
def Ch.cells (h:Ch) (c:Ct):Array Value:=#[↑c.nv,↑c.ng,↑c.nb,υ c.fl,σ h.va c.vols.length h.vc,σ h.ga c.groups.length h.gc,σ h.ba c.books.length h.bc,σ h.ka c.kept.length h.kc,σ h.ta c.times.length h.tc]
def Ch.val (h:Ch) (c:Ct):Value:= .agg (h.cells c)
structure zaV (Q:Nat->Prop) (w:World) (h:Ch) (c:Ct):Prop where
 vols:znK Q w h.va h.vl
 volsE:h.vl.map (·.v)=c.vols
 groups:GpsR Q w h.ga h.gl
 groupsE:h.gl.map (·.v)=c.groups
 books:BksR Q w h.ba h.bl
 booksE:h.bl.map (·.v)=c.books
 kept:zaM Q zb0 1 w h.ka c.kept
 times:zaM Q zbZ 2 w h.ta c.times
theorem zaV.outs {h:Ch} {c:Ct} (hc:zaV Q w h c) (ho:zD Q w w') (hQ:∀j,Q' j->Q j\/↑w<=j):zaV Q' w' h c:=
 ⟨hc.vols.outs ho hQ,hc.volsE,hc.groups.outs ho hQ,hc.groupsE,hc.books.outs ho hQ,hc.booksE,hc.kept.outs zah uf ho hQ,hc.times.outs zR uf ho hQ⟩
theorem zaV.below {h:Ch} {c:Ct} (hc:zaV Q w h c) (hb:θ w w w'):zaV Q w' h c:=hc.outs (zD.of_below hb) fun _ h=> .inl h
theorem zK.pushG {α:Type} {enc:α->List Value} {k:Nat} (hk:∀x,(enc x).length=k) (BX:0 < k) (BA:∀x,∀u ∈ enc x,u.oneCell'=true) {P:Program} {t e:TypeId} {z:Value} {bytes:Nat} (ht:P.underlying t=some (.slice e)) (hi:(P.info? e).map (fun i=> (i.zero,i.size,i.bytes))=some (some z,k,bytes)) (Gk:z.cells.size=k) (FP:bytes<=1000)
 {w:World} {B:Nat} {v:Value} {l:List α} (h:zK enc k e w B v l) (x:α) (hl:l.length<=100000000) (hB:B<=w.heap.size):
 ∃v' w',(Builtin.append_ #[t,t] t #[v, .slice (some ⟨w.heap.size,0,none⟩) 1 1]).run P (w.alloc (.cells (enc x).toArray e))= .ok v' w'/\zK enc k e w' B v' (l++ [x])/\w.grownBy w' v.ownBlock:=by
 obtain ⟨i0,hi,AG,Ai,Ax⟩:=zW hi;have PL:(l.length+1) * bytes<=(l.length+1) * 1000:=Nat.mul_le_mul_left _ FP;obtain ⟨v',w',hr,ho,hg,-⟩:=run_append_own (P:=P) (w.alloc (.cells (enc x).toArray e)) B t t e i0 z k bytes ht hi AG Ai Ax Gk BX v l.length _ (h.alloc _) ⟨w.heap.size,0,none⟩ 1 1 (zB enc [x]) (by rw [zU enc k hk];rfl) (zM.cells hk BX (zM.new w x e)) (fun u hu=> by
  obtain ⟨y,-,hy⟩:=List.mem_flatMap.1 hu;exact BA y u hy) (by unfold maxLen;omega) (by omega) (by rw [World.alloc_size];omega)
 refine ⟨v',w',hr, ?_,⟨hg.os,hg.tape,hg.output,zs (by simp) hg.size,fun j hj Aj=> ?_⟩⟩
 ·unfold zK;rw [zaj,List.length_append];exact ho
 rw [hg.block j (by rw [World.alloc_size];omega) Aj,Below.heap_alloc _ _ _ hj]
theorem zgb {α:Type} {enc:α->List Value} {k:Nat} (hk:∀x,(enc x).length=k) (BX:0 < k) (BA:∀x,∀u ∈ enc x,u.oneCell'=true) {P:Program} {t e:TypeId} {z:Value} {bytes:Nat} (ht:P.underlying t=some (.slice e)) (hi:(P.info? e).map (fun i=> (i.zero,i.size,i.bytes))=some (some z,k,bytes)) (Gk:z.cells.size=k) (FP:bytes<=1000)
 {w:World} {x:Addr} {n:Nat} (c:Nat) {l:List α} (h:zM enc k w (some x) n l) (hn:n<=1000000):
 ∃v' w',(Builtin.append_ #[t,t] t #[.slice (some ⟨w.heap.size,0,none⟩) 0 0, .slice (some x) n c]).run P (w.alloc (.cells #[] e))= .ok v' w'/\zK enc k e w' w.heap.size v' l/\Below w.heap.size w w':=by
 obtain ⟨i0,AD,AG,Ai,Ax⟩:=zW hi;have Aq:Below w.heap.size w (w.alloc (.cells #[] e)):=zr.alloc zl _;have Af:zK enc k e (w.alloc (.cells #[] e)) w.heap.size (.slice (some ⟨w.heap.size,0,none⟩) 0 0) []:=World.ownsRow_made w #[] 0 zl (Nat.zero_le _) (by simp)
 have PL:(0+n) * bytes<=1000000 * 1000:=Nat.mul_le_mul (by omega) FP
 have E9:=h.1;obtain ⟨v',w',BE,ho,hg,-⟩:=run_append_own (P:=P) (w.alloc (.cells #[] e)) w.heap.size t t e i0 z k bytes ht AD AG Ai Ax Gk BX _ 0 _ Af x n c (zB enc l) (by rw [zU enc k hk,E9]) (fun j u hu=> by
  cases l with
  | nil=> simp [zB] at hu
  | cons y l=>
    obtain ⟨b,o,e1,-⟩:=h.2 0 y rfl;simp only [Option.some.injEq] at e1;subst e1;exact zM.cells hk BX (h.alloc _) j u hu) (fun u hu=> by
  obtain ⟨y,-,hy⟩:=List.mem_flatMap.1 hu;exact BA y u hy) (by unfold maxLen;omega) (by omega) Aq.size
 refine ⟨v',w',BE, ?_,Below.own Aq Af hg zl Aq.size⟩;unfold zK;simp only [zB,List.flatMap_nil,List.nil_append,Nat.zero_add] at ho;rw [E9];exact ho
end
section
open Go.RowKit
def At (w:World) (b:Nat) (t:TypeId):Prop:=∃arr,w.heap[b]? =some (.cells arr t (0,0))
theorem At.lt (h:At w b t):b < ↑w:=by
 obtain ⟨arr,h⟩:=h;exact (zg h).1
theorem At.ne {u:TypeId} (h:At w b t) (h':At w c u) (Aj:t≠u):b≠c:=by
 rintro rfl;obtain ⟨arr,h⟩:=h;obtain ⟨arr',h'⟩:=h';rw [h] at h'
 cases h'
 exact Aj rfl
theorem At.heap (h:At w g t) (e:w'.heap[g]? =w.heap[g]?):At w' g t:=by
 obtain ⟨arr,h⟩:=h;exact ⟨arr,by rw [e];exact h⟩
theorem Bs.heap {o:Nat} {l:List UInt8} (h:Bs w (some (g o ())) n l) (e:w'.heap[g]? =w.heap[g]?):Bs w' (some (g o ())) n l:=by
 have hl:=h.length;refine Is.mk' uo fun i hi=> ?_;obtain ⟨b',o',c,ha,hc,Bn,_⟩:=Bs.cell h i hi
 cases ha
 rw [zY e,Bn,zdn _ i ud];rw [ze ud] at hc
 cases hc
 rfl
theorem znl (p:Nat) (w:World) (h2:w (p 2 ())=some (.bool false)):
 χ 149 #[π (some ↑p)] w fun e w'=> e=ρ (.bool true)/\w=w':=by
 go_in
 go_wp2_with go_in
 go_ret;exact ⟨rfl,rfl⟩
theorem zpR:(prog.info? 33).map (fun i=> (i.zero,i.size,i.bytes))=some (some (σ none 0 0),1,24):=ue
theorem znz (w:World):∃w',(Instr.makeSlice 33 (ι 128) (ι 128)).run prog w= .ok (σ (some ↑w) 128 128) w'/\Bs w' (some ↑w) 128 (List.replicate 128 0)/\At w' ↑w 5/\w.grownBy w' none:=by
 obtain ⟨i0,hi,AG,Ai,Ax⟩:=info_parts zi2;obtain ⟨w',hr,ho,hg⟩:=run_make_full (P:=prog) (w:=w) ↑w 33 5 i0 (ω 0) 1 Tryz.underlying33 hi AG Ai .i64 .i64 128 uQ ur zl;have e:(madeCells (Value.int .u8 0).cells (128 * 1)).toList=zc (List.replicate 128 0):=ue;rw [e] at ho;have AF:At w' ↑w 5:=by
  rcases ho.2 with ⟨h,_⟩ | ⟨g,cap,cur,he,_,hh,_⟩
  ·cases h
  cases he
  exact ⟨cur,hh⟩
 obtain ⟨a,c,he,hb,_⟩:=zmV ho
 cases he
 exact ⟨w',hr,hb,AF,hg⟩
end
end Go.Proofs.YtaoceecfjlkmdaaGreat
