/- Lemmas of the walks, merged and pressed by press.py. Conditions: those of each theorem. -/
import Derived.Deep.RegionHeldLaw
import Derived.Test.YtaoceecfjlkmdaaGreatM8
set_option maxRecDepth 100000
set_option maxHeartbeats 64000000
set_option linter.all false
namespace Go.Proofs.YtaoceecfjlkmdaaGreat
open Tryz
variable {K:Act→World→Prop} {es:List En} {ks vs:List Nat} {B b c eb fuel i id j k n p:Nat} {a:Option Addr} {row:Option Nat} {e t:TypeId} {kv kv' v vv y:Value} {W w w' w0:World}
section
open Go
section
variable {P:Program} {ops:Array Oper} {Q:Exit→Act→World→Prop} {md:Region.Mode} {H:Nat→World→Prop}
def ze2 (P:Program) (md:Region.Mode) (ops:Array Oper) (Q:Exit->Act->World->Prop) (H:Nat->World->Prop):Nat->Array Bool->Act->World->Prop
 | 0,listed,a,w=> Region.ready md ops listed= []/\Q .normal a w
 | fuel+1,listed,a,w=>
   (Region.ready md ops listed= []->Q .normal a w)/\
   ∀i ∈ Region.ready md ops listed,wpOp P ops Q i (fun a' w'=> H i w'/\ze2 P md ops Q H fuel (listed.setIfInBounds i true) a' w') a w
theorem zjG:∀(fuel:Nat) (listed:Array Bool) (a:Act) (w:World),ze2 P md ops Q H fuel listed a w->wpAny P md ops Q fuel listed a w
 | 0,_,_,_,h=> h
 | fuel+1,_,_,_,h=> ⟨h.1,fun i hi=> wpOp_mono (fun a' w' h'=> zjG fuel _ a' w' h'.2) (h.2 i hi)⟩
def zd0 (md:Region.Mode) (ops:Array Oper) (i:Nat):Nat->Nat->Bool
 | 0,_=> false
 | f+1,j=> match ops[j]? with
   | some o=> o.after.any fun e=> Region.binds md e && (e.on==i || zd0 md ops i f e.on)
   | none=> false
def zf1 (md:Region.Mode) (ops:Array Oper) (listed:Array Bool):Prop:=∀j o,ops[j]? =some o->listed.getD j false=true->∀e ∈ o.after,Region.binds md e=true->listed.getD e.on false=true
def zl4 (md:Region.Mode) (ops:Array Oper) (listed:Array Bool):Bool:=(List.range ops.size).all fun j=> !listed.getD j false || match ops[j]? with
 | some o=> o.after.all fun e=> !Region.binds md e || listed.getD e.on false
 | none=> true
theorem zeq {listed:Array Bool} (h:zl4 md ops listed=true):zf1 md ops listed:=fun j o ho hl e he hb=> by
 have h1:=List.all_eq_true.1 h j (List.mem_range.2 (Array.getElem?_eq_some_iff.1 ho).1);simp only [hl,ho,Bool.not_true,Bool.false_or] at h1;have h2:=Array.all_eq_true_iff_forall_mem.1 h1 e he
 simpa [hb] using h2
theorem zf1.set {listed:Array Bool} (hc:zf1 md ops listed)  (hi:i ∈ Region.ready md ops listed):zf1 md ops (listed.setIfInBounds i true):=fun j o ho hl e he hb=> by
 by_cases Et:j=i
 ·subst Et;obtain ⟨-,o',FJ,Bq⟩:=mem_ready.1 hi;rw [ho] at FJ
  cases FJ
  exact getD_set_true (Bq e he hb)
 rw [getD_set_ne false (Ne.symm Et)] at hl;exact getD_set_true (hc j o ho hl e he hb)
theorem zhk {listed:Array Bool} (hc:zf1 md ops listed):∀(f j:Nat),zd0 md ops i f j=true->(∀o,ops[j]? =some o->∀e ∈ o.after,Region.binds md e=true->listed.getD e.on false=true)->listed.getD i false=true:=by
 intro f
 induction f with
 | zero=> intro j h;cases h
 | succ f ih=>
   intro j h hd;unfold zd0 at h
   cases ho:ops[j]? with
   | none=> rw [ho] at h;cases h
   | some o=>
     rw [ho] at h;obtain ⟨e,he,h2⟩:=Array.any_eq_true'.1 h;simp only [Bool.and_eq_true,Bool.or_eq_true,beq_iff_eq] at h2;have h3:=hd o ho e he h2.1;rcases h2.2 with h4 | h4
     ·rw [<- h4];exact h3
     exact ih e.on h4 fun o' FJ=> hc e.on o' FJ h3
theorem zf5 {S:World->Prop}  {oi:Oper}  {f:Nat} (hi:ops[i]? =some oi) (T4:∀(j:Nat) (o:Oper) cs b,ops[j]? =some o->o.op≠ .select cs b)
 (hQ:∀c a w,Q (.panic c) (a.put oi.dst v) w->Q (.panic c) a w) (jR:∀w,S w->H i w):
 ∀ (fuel:Nat) (listed:Array Bool) (a:Act) (w:World),
   (∀j oj,ops[j]? =some oj->j≠i->listed.getD j true=false->(∀e ∈ oj.after,Region.binds md e=true->e.on≠i)->oi.apart ops oj=true)->
   (∀j,listed.getD j true=true\/zd0 md ops i f j=true\/∀w,H j w->S w)->zf1 md ops listed->
   i ∈ Region.ready md ops listed->YieldsIf P ops S oi v a->S w->
   ze2 P md ops Q H fuel (listed.setIfInBounds i true) (a.put oi.dst v) w->ze2 P md ops Q H (fuel+1) listed a w:=by
 intro fuel
 induction fuel with
 | zero=>
   intro listed a w _ _ _ hr hy hS HH;refine ⟨fun h=> (by rw [h] at hr;cases hr),fun j hj=> ?_⟩
   by_cases Et:j=i
   ·subst Et;exact hy.wpOp hi hS ⟨jR _ hS,HH⟩
   have:=ready_mono hj Et;rw [HH.1] at this
   cases this
 | succ fuel ih=>
   intro listed a w GC jn AN hr hy hS HH;refine ⟨fun h=> (by rw [h] at hr;cases hr),fun j hj=> ?_⟩
   by_cases Et:j=i
   ·subst Et;exact hy.wpOp hi hS ⟨jR _ hS,HH⟩
   have h1:=HH.2 j (ready_mono hj Et);obtain ⟨Pz,oj,Vv,Bq⟩:=mem_ready.1 hj;have Qb:listed.getD i false≠true:=fun h1=> by
       have h0:=(mem_ready.1 hr).1;rcases Nat.lt_or_ge i listed.size with h' | h'
       ·simp [h'] at h0 h1;rw [h0] at h1;cases h1
       simp [Array.getElem?_eq_none h'] at h1
   have YO:∀e ∈ oj.after,Region.binds md e=true->e.on≠i:=fun e he hb yJ=> by
       have h1:=Bq e he hb;rw [yJ] at h1;exact Qb h1
   have yi:∀w,H j w->S w:=by
       rcases jn j with h | h | h
       ·rw [Pz] at h;cases h
       ·exact absurd (zhk AN f j h fun o ho=> by rw [Vv] at ho;cases ho;exact Bq) Qb
       exact h
   have h2:=wpOp_putIf Vv (GC j oj Vv Et Pz YO) (fun cs b=> T4 i oi cs b hi) (fun cs b=> T4 j oj cs b Vv) hQ hy h1;have NL:∀k,listed.getD k true=true->(listed.setIfInBounds j true).getD k true=true:=fun k hk=> by
       by_cases kN:j=k
       ·subst kN;rw [Pz] at hk;cases hk
       rw [getD_set_ne true kN];exact hk
   have Pr:∀k ok,ops[k]? =some ok->k≠i->(listed.setIfInBounds j true).getD k true=false->
    (∀ e ∈ ok.after,Region.binds md e=true->e.on≠i)->oi.apart ops ok=true:=fun k ok hk kS Qb Lv=> by
       refine GC k ok hk kS ?_ Lv
       cases hc:listed.getD k true with
       | false=> rfl
       | true=> rw [NL k hc] at Qb;cases Qb
   refine wpOp_mono (fun a' w' h3=> ⟨h3.2.1,ih (listed.setIfInBounds j true) a' w' Pr (fun k=> (jn k).imp (NL k) id) (AN.set hj) (ready_mono hr (Ne.symm Et)) h3.1 (yi _ h3.2.1) ?_⟩) h2;rw [Array.setIfInBounds_comm _ _ Et];exact h3.2.2
def zeM (late:List Nat) (S0 S1:World->Prop) (j:Nat) (w:World):Prop:=S0 w/\(late.contains j=false->S1 w)
variable {late:List Nat} {S0 S1:World→Prop}
def zlJ (md:Region.Mode) (ops:Array Oper) (late:List Nat) (listed:Array Bool) (i:Nat):Bool:=
 Region.noSelect ops && Region.free md ops listed i && (Region.ready md ops listed).contains i && zl4 md ops listed && (late.contains i || late.all fun j=> listed.getD j true || zd0 md ops i 8 j)
theorem zht {oi:Oper}   {listed:Array Bool} {a:Act}  (hi:ops[i]? =some oi)
 (hb:zlJ md ops late listed i=true) (hQ:∀c a w,Q (.panic c) (a.put oi.dst v) w->Q (.panic c) a w)
 (hy:if late.contains i=true then YieldsIf P ops S0 oi v a else YieldsIf P ops (fun w=> S0 w/\S1 w) oi v a) (hS:if late.contains i=true then S0 w else S0 w/\S1 w)
 (h:ze2 P md ops Q (zeM late S0 S1) fuel (listed.setIfInBounds i true) (a.put oi.dst v) w):ze2 P md ops Q (zeM late S0 S1) (fuel+1) listed a w:=by
 simp only [zlJ,Bool.and_eq_true] at hb;obtain ⟨⟨⟨⟨hs,hf⟩,hr⟩,hc⟩,hw⟩:=hb
 cases hl:late.contains i with
 | true=>
   rw [if_pos hl] at hy hS;exact zf5 (f:=0) hi (Region.noSelect_spec hs) hQ (fun w hw=> ⟨hw,fun e=> by rw [hl] at e;cases e⟩) fuel listed a w (Region.free_spec hi hf) (fun _=> .inr (.inr fun _ h=> h.1)) (zeq hc) (by simpa using hr) hy hS h
 | false=>
   rw [if_neg (by rw [hl];decide)] at hy hS
   rw [hl,Bool.false_or] at hw;refine zf5 (f:=8) hi (Region.noSelect_spec hs) hQ (fun w hw=> ⟨hw.1,fun _=> hw.2⟩) fuel listed a w (Region.free_spec hi hf) (fun j=> ?_) (zeq hc) (by simpa using hr) hy hS h
   cases hj:late.contains j with
   | true=>
     have:=List.all_eq_true.1 hw j (by simpa using hj)
     rw [Bool.or_eq_true] at this;exact this.imp id .inl
   | false=> exact .inr (.inr fun _ h=> ⟨h.1,h.2 hj⟩)
theorem zdd (i:Nat) (d:Option Nat) {oi:Oper}   {listed:Array Bool} {a:Act}  (hi:ops[i]? =some oi) (hd:oi.dst=d) (hl:late.contains i=true)
 (hb:zlJ md ops late listed i=true) (hQ:∀c a w,Q (.panic c) (a.put d v) w->Q (.panic c) a w) (hS:S0 w) (hy:YieldsIf P ops S0 oi v a)
 (h:ze2 P md ops Q (zeM late S0 S1) fuel (listed.setIfInBounds i true) (a.put d v) w):ze2 P md ops Q (zeM late S0 S1) (fuel+1) listed a w:=by
 subst hd;exact zht hi hb hQ (by rw [if_pos hl];exact hy) (by rw [if_pos hl];exact hS) h
theorem zaa (i:Nat) (d:Option Nat) {oi:Oper}   {listed:Array Bool} {a:Act}  (hi:ops[i]? =some oi) (hd:oi.dst=d) (hl:late.contains i=false)
 (hb:zlJ md ops late listed i=true) (hQ:∀c a w,Q (.panic c) (a.put d v) w->Q (.panic c) a w) (hS:S0 w/\S1 w) (hy:YieldsIf P ops (fun w=> S0 w/\S1 w) oi v a)
 (h:ze2 P md ops Q (zeM late S0 S1) fuel (listed.setIfInBounds i true) (a.put d v) w):ze2 P md ops Q (zeM late S0 S1) (fuel+1) listed a w:=by
 subst hd;exact zht hi hb hQ (by rw [if_neg (by rw [hl];decide)];exact hy) (by rw [if_neg (by rw [hl];decide)];exact hS) h
theorem zjF {rs:List Nat}  {listed:Array Bool} {a:Act}  (hr:Region.ready md ops listed=rs) (Aj:rs≠ [])
 (h:∀i ∈ rs,wpOp P ops Q i (fun a' w'=> H i w'/\ze2 P md ops Q H fuel (listed.setIfInBounds i true) a' w') a w):ze2 P md ops Q H (fuel+1) listed a w:=
 ⟨fun h0=> absurd (hr ▸ h0) Aj,hr ▸ h⟩
theorem zd {o:Oper}  {listed:Array Bool} {a:Act}  (hr:Region.ready md ops listed= [i]) (ho:ops[i]? =some o)
 (h:∀K':Act->World->Prop,Shut (∀a w,H i w->ze2 P md ops Q H fuel (listed.setIfInBounds i true) a w->K' a w)->if Region.wanted o (yielded ops a.tmps)=true then Oper.wp P o a w K' Q else K' (a.put o.dst undef) w):ze2 P md ops Q H (fuel+1) listed a w:=
 zjF hr uh fun j hj=> by
  rw [List.mem_singleton] at hj;subst hj;exact wpOp_step ho (fun K' hK=> h K' (fun a w h1 h2=> hK a w ⟨h1,h2⟩))
theorem zbq {i':Nat} {o o':Oper}  {listed:Array Bool} {a:Act}  (hr:Region.ready md ops listed= [i,i']) (ho:ops[i]? =some o) (FJ:ops[i']? =some o')
 (h:∀K':Act->World->Prop,Shut (∀a w,H i w->ze2 P md ops Q H fuel (listed.setIfInBounds i true) a w->K' a w)->if Region.wanted o (yielded ops a.tmps)=true then Oper.wp P o a w K' Q else K' (a.put o.dst undef) w)
 (h':∀K':Act->World->Prop,Shut (∀a w,H i' w->ze2 P md ops Q H fuel (listed.setIfInBounds i' true) a w->K' a w)->if Region.wanted o' (yielded ops a.tmps)=true then Oper.wp P o' a w K' Q else K' (a.put o'.dst undef) w):ze2 P md ops Q H (fuel+1) listed a w:=
 zjF hr uh fun j hj=> by
  rcases List.mem_cons.1 hj with rfl | hj
  ·exact wpOp_step ho (fun K' hK=> h K' (fun a w h1 h2=> hK a w ⟨h1,h2⟩))
  rw [List.mem_singleton] at hj;subst hj;exact wpOp_step FJ (fun K' hK=> h' K' (fun a w h1 h2=> hK a w ⟨h1,h2⟩))
theorem zI {listed:Array Bool} {a:Act}  (hr:Region.ready md ops listed= []) (h:Q .normal a w):∀fuel,ze2 P md ops Q H fuel listed a w
 | 0=> ⟨hr,h⟩
 | _+1=> ⟨fun _=> h,by rw [hr];simp⟩
theorem zy {a:Act}  (hm:P.follows .mixedOrders=true) (late:List Nat) (S0 S1:World->Prop)
 (h:ze2 P .any ops Q (zeM late S0 S1) ops.size (Array.replicate ops.size false) a w.drew):(Code.region id ops true).wp P Q a w:=
 wp_region_any hm (zjG _ _ _ _ h)
end
section
variable {P:Program} {ops:Array Oper} {Q:Exit→Act→World→Prop} {md:Region.Mode} {late:List Nat} {S0 S1:World→Prop}
theorem tL (i:Nat) {d:Option Nat} {oi:Oper}   {listed:Array Bool} {a a':Act}  (hS:S0 w)
 (h:ze2 P md ops Q (zeM late S0 S1) fuel (listed.setIfInBounds i true) a' w) (hi:ops[i]? =some oi:=by rfl) (hd:oi.dst=d:=by rfl) (hl:late.contains i=true:=by decide)
 (hb:zlJ md ops late listed i=true:=by kernel_rfl) (hw:Region.wanted oi (yielded ops a.tmps)=true:=by rfl) (hy:∀w',S0 w'->(execOp a.eval oi).run P w'= .ok (.value v) w':=by (intro w' O4;(repeat (have yo:=And.left O4;replace O4:=And.right O4));go_simp;try with_reducible rfl))
 (ha:a.put d v=a':=by (try simp only [Act.put,zSs]);try rfl) (hQ:∀c a w,Q (.panic c) (a.put d v) w->Q (.panic c) a w:=by exact fun _ _ _ h=> h):ze2 P md ops Q (zeM late S0 S1) (fuel+1) listed a w:=
 zdd i d hi hd hl hb hQ hS (.inl ⟨hw,hy⟩) (ha ▸ h)
theorem tS (i:Nat) {d:Option Nat} {oi:Oper}   {listed:Array Bool} {a a':Act}  (hS:S0 w/\S1 w)
 (h:ze2 P md ops Q (zeM late S0 S1) fuel (listed.setIfInBounds i true) a' w) (hi:ops[i]? =some oi:=by rfl) (hd:oi.dst=d:=by rfl) (hl:late.contains i=false:=by decide)
 (hb:zlJ md ops late listed i=true:=by kernel_rfl) (hw:Region.wanted oi (yielded ops a.tmps)=true:=by rfl) (hy:∀w',S0 w'/\S1 w'->(execOp a.eval oi).run P w'= .ok (.value v) w':=by (intro w' O4;(repeat (have yo:=And.left O4;replace O4:=And.right O4));go_simp;try with_reducible rfl))
 (ha:a.put d v=a':=by (try simp only [Act.put,zSs]);try rfl) (hQ:∀c a w,Q (.panic c) (a.put d v) w->Q (.panic c) a w:=by exact fun _ _ _ h=> h):ze2 P md ops Q (zeM late S0 S1) (fuel+1) listed a w:=
 zaa i d hi hd hl hb hQ hS (.inl ⟨hw,hy⟩) (ha ▸ h)
end
end
section
open Go.RowKit
def zhn (k:Nat):List Value:= [τ (zj k),ν (zo k),υ (zp k)]
theorem zeT (e:Nat):(zhn e).length=3:=rfl
theorem zjR (e:Nat):∀u ∈ zhn e,u.oneCell'=true:=fun u hu=> by
 simp [zhn] at hu;rcases hu with rfl | rfl | rfl <;> rfl
def zfg (n:Nat):List Value:= [atV n]
theorem zeQ (e:Nat):(zfg e).length=1:=rfl
theorem zjP (e:Nat):∀u ∈ zfg e,u.oneCell'=true:=fun u hu=> by
 simp [zfg] at hu;subst hu
 rfl
theorem zmA:(prog.info? 111).map (fun i=> (i.zero,i.size,i.bytes))=some (some (.agg #[τ 0,ν 0,υ 0]),3,16):=ue
theorem zmB:(prog.info? 73).map (fun i=> (i.zero,i.size,i.bytes))=some (some (ν 0),1,4):=ue
theorem World.alloc_size (w:World) (o:Obj):(w.alloc o).heap.size=w.heap.size+1:=uh
theorem zM.new {α:Type} {enc:α->List Value}  (w:World) (x:α) (t:TypeId):zM enc k (w.alloc (.cells (enc x).toArray t)) (some ↑w) 1 [x]:=by
 refine ⟨rfl,fun i r h=> ?_⟩;have hi:i < 1:=by simpa using (zi h).1
 have:i=0:=ud;subst this;simp at h;subst h;refine ⟨↑w,0,rfl,fun j x hx=> ?_⟩
 show (match (w.alloc (.cells _ t)).heap[w.heap.size]? with
  | some (.cells c _ _)=> c[0+0 * k+j]?
  | _=> none)=_
 rw [heap_alloc_new]
 simpa using hx
theorem zM.alloc {α:Type} {enc:α->List Value}     {l:List α} (h:zM enc k w a n l) (o:Obj):zM enc k (w.alloc o) a n l:=⟨h.1,fun i r hr=> by
 obtain ⟨b,o',e,h1⟩:=h.2 i r hr;exact ⟨b,o',e,fun j x hx=> zu (h1 j x hx) _⟩⟩
theorem zM.block {α:Type} {enc:α->List Value}   {o:Nat} {l:List α} (h:zM enc k w (some (b o ())) n l) (hb:w'.heap[b]? =w.heap[b]?):zM enc k w' (some (b o ())) n l:=
 h.same (S:=fun j=> j=b) (fun b' o' e=> by cases e;rfl) (fun j hj=> by subst hj;exact hb)
theorem zM.below {α:Type} {enc:α->List Value}     {l:List α} (h:zM enc k w a n l)  (hb:θ B w w') (hB:↑w<=B):zM enc k w' a n l:=⟨h.1,fun i r hr=> by
 obtain ⟨b,o',e,h1⟩:=h.2 i r hr;exact ⟨b,o',e,fun j x hx=> by
  have hl:=zb _ _ (h1 j x hx);rw [hb.cell (p:=(b _ ())) (by show b < B;have:b < ↑w:=hl;omega)]
  exact h1 j x hx⟩⟩
theorem zM.keys {l:List Nat} (h:zM zhn 3 w a n l):ziq w a n l:=
 ⟨h.1,fun i r hr=> by
  obtain ⟨b,o,e,h1⟩:=h.2 i r hr;exact ⟨b,o,e,h1 0 _ rfl,h1 1 _ rfl,h1 2 _ rfl⟩⟩
theorem zM.ats {l:List Nat} (h:zM zfg 1 w a n l):Sl w a n (l.map atV):=
 ⟨by rw [List.length_map];exact h.1,fun i r hr=> by
  rw [List.getElem?_map] at hr;obtain ⟨x,hx,rfl⟩:=Option.map_eq_some_iff.1 hr;obtain ⟨b,o,e,h1⟩:=h.2 i x hx;exact ⟨b,o,e,by have:=h1 0 (atV x) rfl;simpa using this⟩⟩
theorem zM.ptrs {l:List Nat} (h:zM zcV 1 w a n l):Sl w a n (l.map zv):=
 ⟨by rw [List.length_map];exact h.1,fun i r hr=> by
  rw [List.getElem?_map] at hr;obtain ⟨x,hx,rfl⟩:=Option.map_eq_some_iff.1 hr;obtain ⟨b,o,e,h1⟩:=h.2 i x hx;exact ⟨b,o,e,by have:=h1 0 (zv x) rfl;simpa using this⟩⟩
structure zaS (p:Nat) (P0:Obj) (eb:Nat) (E0:Obj) (w0:World) (kv vv:Value) (ks vs:List Nat) (W:World):Prop where
 k:zK zhn 3 111 W (p+1) kv ks
 v:zK zfg 1 73 W (p+1) vv vs
 apart:∀g,kv.ownBlock=some g->vv.ownBlock≠some g
 hp:W.heap[p]? =some P0
 he:W.heap[eb]? =some E0
 ke:kv.ownBlock≠some eb
 ve:vv.ownBlock≠some eb
 below:θ p w0 W
theorem zK.lt {α:Type} {enc:α->List Value}      {l:List α} (h:zK enc k e w B v l):∀g,v.ownBlock=some g->B<=g/\g < ↑w:=World.ownsRow.lt h
theorem zK.alloc {α:Type} {enc:α->List Value}      {l:List α} (h:zK enc k e w B v l) (o:Obj):zK enc k e (w.alloc o) B v l:=World.ownsRow.alloc h o
theorem zK.kept {α:Type} {enc:α->List Value}      {l:List α} (h:zK enc k e w B v l)  (hg:w.grownBy w' row) (Aj:v.ownBlock=none\/v.ownBlock≠row):zK enc k e w' B v l:=World.ownsRow.kept h hg Aj
theorem zK.form {α:Type} {enc:α->List Value}      {l:List α} (h:zK enc k e w B v l):∃a n c,v=σ a n c:=by
 rcases h.2 with ⟨h1,-⟩ | ⟨g,cap,cur,h1,-⟩
 ·exact ⟨_,_,_,h1⟩
 exact ⟨_,_,_,h1⟩
section
variable {p eb:Nat} {P0 E0:Obj} {w0:World} {kv vv:Value} {ks vs:List Nat} {W:World}
theorem zaS.lt (m:zaS p P0 eb E0 w0 kv vv ks vs W):p < ↑W/\eb < ↑W:=⟨(zg m.hp).1,(zg m.he).1⟩
theorem zaS.alloc (m:zaS p P0 eb E0 w0 kv vv ks vs W) (o:Obj):zaS p P0 eb E0 w0 kv vv ks vs (W.alloc o):=
 ⟨m.k.alloc o,m.v.alloc o,m.apart,by rw [Below.heap_alloc _ _ _ m.lt.1];exact m.hp,by rw [Below.heap_alloc _ _ _ m.lt.2];exact m.he,m.ke,m.ve,m.below.alloc ubf o⟩
theorem zaS.drew (m:zaS p P0 eb E0 w0 kv vv ks vs W):zaS p P0 eb E0 w0 kv vv ks vs W.drew:=⟨m.k,m.v,m.apart,m.hp,m.he,m.ke,m.ve,m.below.drew⟩
theorem zaS.appK (m:zaS p P0 eb E0 w0 kv vv ks vs W)  (hs:zM zhn 3 W (some ↑b) 1 [k]) (hl:ks.length<=100000000):
 ∃v' w',(∀ty,(Builtin.append_ #[224,224] ty #[kv,σ (some ↑b) 1 1]).run prog W= .ok v' w')/\zaS p P0 eb E0 w0 v' vv (ks++ [k]) vs w'/\W.grownBy w' kv.ownBlock:=by
 obtain ⟨i0,hi,AG,Ai,Ax⟩:=zW zmA;obtain ⟨v',w',hr,ho,hg,-,AF⟩:=run_append_own_at (P:=prog) W (p+1) 224 224 111 i0 _ 3 16 Tryz.underlying224 hi AG Ai Ax rfl uf kv ks.length _ m.k ↑b 1 1 (zB zhn [k]) rfl (zM.cells zeT uf hs) (fun u hu=> by
  obtain ⟨x,-,hx⟩:=List.mem_flatMap.1 hu;exact zjR x u hx) ur ud ubf
 have hlt:=m.lt;have Du:=m.k.lt;have FL:=m.v.lt;refine ⟨v',w',fun ty=> hr,⟨?_,m.v.kept hg ?_, ?_, ?_, ?_, ?_,m.ve,m.below.grown hg ud (fun j hj=> by have:=(Du j hj).1;omega)⟩,hg⟩
 ·unfold zK;rw [zaj,List.length_append];exact ho
 ·cases K9:vv.ownBlock with
  | none=> exact .inl rfl
  | some g=> exact .inr fun e=> m.apart g e.symm K9
 ·intro g Cf Cy;rcases AF with h | h
  ·exact m.apart g (h.symm.trans Cf) Cy
  rw [h] at Cf
  cases Cf
  have:=(FL _ Cy).2
  omega
 ·rw [hg.block p hlt.1 (fun e=> by have:=(Du p e.symm).1;omega)];exact m.hp
 ·rw [hg.block eb hlt.2 (fun e=> m.ke e.symm)];exact m.he
 intro e;rcases AF with h | h
 ·exact m.ke (h.symm.trans e)
 rw [h] at e
 cases e
 omega
theorem zaS.appV (m:zaS p P0 eb E0 w0 kv vv ks vs W)  (hs:zM zfg 1 W (some ↑b) 1 [k]) (hl:vs.length<=100000000):
 ∃v' w',(∀ty,(Builtin.append_ #[154,154] ty #[vv,σ (some ↑b) 1 1]).run prog W= .ok v' w')/\zaS p P0 eb E0 w0 kv v' ks (vs++ [k]) w'/\W.grownBy w' vv.ownBlock:=by
 obtain ⟨i0,hi,AG,Ai,Ax⟩:=zW zmB;obtain ⟨v',w',hr,ho,hg,-,AF⟩:=run_append_own_at (P:=prog) W (p+1) 154 154 73 i0 _ 1 4 Tryz.underlying154 hi AG Ai Ax rfl uf vv vs.length _ m.v ↑b 1 1 (zB zfg [k]) rfl (zM.cells zeQ uf hs) (fun u hu=> by
  obtain ⟨x,-,hx⟩:=List.mem_flatMap.1 hu;exact zjP x u hx) ur ud ubf
 have hlt:=m.lt;have Du:=m.k.lt;have FL:=m.v.lt;refine ⟨v',w',fun ty=> hr,⟨m.k.kept hg ?_, ?_, ?_, ?_, ?_,m.ke, ?_,m.below.grown hg ud (fun j hj=> by have:=(FL j hj).1;omega)⟩,hg⟩
 ·cases K9:kv.ownBlock with
  | none=> exact .inl rfl
  | some g=> exact .inr fun e=> m.apart g K9 e.symm
 ·unfold zK;rw [zaj,List.length_append];exact ho
 ·intro g Cf Cy;rcases AF with h | h
  ·exact m.apart g Cf (h.symm.trans Cy)
  rw [h] at Cy
  cases Cy
  have:=(Du _ Cf).2
  omega
 ·rw [hg.block p hlt.1 (fun e=> by have:=(FL p e.symm).1;omega)];exact m.hp
 ·rw [hg.block eb hlt.2 (fun e=> m.ve e.symm)];exact m.he
 intro e;rcases AF with h | h
 ·exact m.ve (h.symm.trans e)
 rw [h] at e
 cases e
 omega
theorem zfF {ops:Array Oper} {o:Oper} {a:Act}  {Q:Exit->Act->World->Prop} {E:Prop}  (hg:o.guard=none) (d x:Operand) (GL:o.op=Op.call {callee:=Callee.builtin Builtin.append,args:=#[d,x],argTypes:=#[224,224]})
  (hd:a.eval d=v) (hx:a.eval x=σ (some ↑b) 1 1) (m:zaS p P0 eb E0 w0 v vv ks vs W) (hs:zM zhn 3 W (some ↑b) 1 [k]) (hl:ks.length<=100000000)
 (h:∀v' w',zaS p P0 eb E0 w0 v' vv (ks++ [k]) vs w'->W.grownBy w' v.ownBlock->K (a.put o.dst v') w'):
 if Region.wanted o (yielded ops a.tmps)=true then Oper.wp prog o a W K Q else E:=by
 obtain ⟨v',w',hr,m',IB⟩:=m.appK hs hl;exact zL hg d x _ _ GL _ _ hd hx (hr _) (h v' w' m' IB)
theorem znn {ops:Array Oper} {o:Oper} {a:Act}  {Q:Exit->Act->World->Prop} {E:Prop}  (hg:o.guard=none) (d x:Operand) (GL:o.op=Op.call {callee:=Callee.builtin Builtin.append,args:=#[d,x],argTypes:=#[154,154]})
  (hd:a.eval d=v) (hx:a.eval x=σ (some ↑b) 1 1) (m:zaS p P0 eb E0 w0 kv v ks vs W) (hs:zM zfg 1 W (some ↑b) 1 [k]) (hl:vs.length<=100000000)
 (h:∀v' w',zaS p P0 eb E0 w0 kv v' ks (vs++ [k]) w'->W.grownBy w' v.ownBlock->K (a.put o.dst v') w'):
 if Region.wanted o (yielded ops a.tmps)=true then Oper.wp prog o a W K Q else E:=by
 obtain ⟨v',w',hr,m',IB⟩:=m.appV hs hl;exact zL hg d x _ _ GL _ _ hd hx (hr _) (h v' w' m' IB)
theorem zM.apartG {α:Type} {enc:α->List Value}    {o:Nat} {l:List α} (h:zM enc k w (some (b o ())) n l) (hg:w.grownBy w' row) (hb:b < ↑w) (Aj:some b≠row):zM enc k w' (some (b o ())) n l:=
 h.block (hg.block b hb Aj)
end
theorem zaS.to {E0:Obj} {vv':Value}     (m:zaS p (.cells #[.bool true,kv',vv',σ none 0 0,ν 0] 227) eb E0 w0 kv vv ks vs W) (x y:Value):
 zaS p (.cells #[.bool true,x,y,σ none 0 0,ν 0] 227) p (.cells #[.bool true,x,y,σ none 0 0,ν 0] 227) w0 kv vv ks vs ((W.setCell (p 1 ()) x).setCell (p 2 ()) y):=by
 have h1:=heap_setCell_same _ p 2 _ _ y (heap_setCell_same W p 1 _ _ x m.hp);have AR:((W.setCell (p 1 ()) x).setCell (p 2 ()) y).heap.size=↑W:=uh;have hg:W.grownBy ((W.setCell (p 1 ()) x).setCell (p 2 ()) y) (some p):=⟨rfl,rfl,rfl,by rw [AR];exact zl,fun j hj Aj=> by
  rw [heap_setCell_other _ _ j _ (fun e=> Aj uJ),heap_setCell_other _ _ j _ (fun e=> Aj uJ)]⟩
 have Du:=m.k.lt;have FL:=m.v.lt;have FV:kv.ownBlock≠some p:=fun e=> by have:=(Du p e).1;omega
 have Lb:vv.ownBlock≠some p:=fun e=> by have:=(FL p e).1;omega
 refine ⟨m.k.kept hg (.inr FV),m.v.kept hg (.inr Lb),m.apart, ?_, ?_,FV,Lb,m.below.grown hg ubf (fun j hj=> by cases hj;exact zl)⟩
 ·exact h1
 exact h1
theorem zaS.node {x:Value} {E0:Obj}     (m:zaS p (.cells #[.bool true,x,y,σ none 0 0,ν 0] 227) eb E0 w0 kv vv ks vs W):
 W (p 1 ())=some x/\W (p 2 ())=some y/\W.frozen? (p 1 ())=false/\W.frozen? (p 2 ())=false:=by
 have h1:=m.hp;refine ⟨?_, ?_, ?_, ?_⟩ <;> simp [World.cell?,World.frozen?,h1]
theorem zaS.reads {x a b c d:Value}      (m:zaS p (.cells #[.bool true,x,y,σ none 0 0,ν 0] 227) eb (.cells #[a,b,c,d] t) w0 kv vv ks vs W):
 W eb=some a/\W (eb 1 ())=some b/\W (eb 2 ())=some c/\W (eb 3 ())=some d:=by
 have h2:=m.he;refine ⟨?_, ?_, ?_, ?_⟩ <;> simp [World.cell?,h2]
def zhZ (eb:Nat) (a b c d:Value) (W:World):Prop:=W eb=some a/\W (eb 1 ())=some b/\W (eb 2 ())=some c/\W (eb 3 ())=some d
def zmO (p:Nat) (x y:Value) (W:World):Prop:=W (p 1 ())=some x/\W (p 2 ())=some y
theorem zaS.late {x a b c d:Value}      (m:zaS p (.cells #[.bool true,x,y,σ none 0 0,ν 0] 227) eb (.cells #[a,b,c,d] t) w0 kv vv ks vs W):zhZ eb a b c d W/\zmO p x y W:=⟨m.reads,m.node.1,m.node.2.1⟩
theorem zaS.lateH {late:List Nat}  {x a b c d:Value}      (m:zaS p (.cells #[.bool true,x,y,σ none 0 0,ν 0] 227) eb (.cells #[a,b,c,d] t) w0 kv vv ks vs W):zeM late (zhZ eb a b c d) (zmO p x y) j W:=⟨m.late.1,fun _=> m.late.2⟩
theorem za3 (W:World) (a b:Addr) (v:Value) (h:b.block≠a.block):(W.setCell a v) b=W b:=by
 simp only [World.cell?];rw [heap_setCell_other W a _ _ h]
theorem zjU {x a b c d:Value} (Aj:eb≠p) (h:W eb=some a/\W (eb 1 ())=some b/\W (eb 2 ())=some c/\W (eb 3 ())=some d):
 (W.setCell (p i ()) x) eb=some a/\(W.setCell (p i ()) x) (eb 1 ())=some b/\(W.setCell (p i ()) x) (eb 2 ())=some c/\(W.setCell (p i ()) x) (eb 3 ())=some d:=
 ⟨(za3 W _ _ _ Aj).trans h.1,(za3 W _ _ _ Aj).trans h.2.1,(za3 W _ _ _ Aj).trans h.2.2.1,(za3 W _ _ _ Aj).trans h.2.2.2⟩
def zcd (kv vv:Value):Obj:= .cells #[.bool true,kv,vv,σ none 0 0,ν 0] 227
theorem zld {E0:Obj}    (m:zaS p (zcd kv vv) eb E0 w0 kv vv (es.map (·.1)) (es.map (·.2)) w) (S:Nat->Prop) (hS:∀j,p<=j->j < ↑w->S j):zQ w S p (zbM es):=by
 obtain ⟨ka,kc,rfl,hk,-,-⟩:=m.k.row zeT;obtain ⟨va,vc,rfl,hv,-,-⟩:=m.v.row zeQ;simp only [List.length_map] at hk hv;have hlt:=m.lt.1;refine ⟨ka,kc,va,vc,⟨⟨ν 0, ?_⟩,hS p zl hlt,fun b o e=> ?_,fun b o e=> ?_,fun b o e=> by cases e⟩,hk.keys, ?_⟩
 ·have:=m.hp;unfold zcd at this;simp only [List.length_map] at this;exact this
 ·subst e
  cases o with
  | zero=>
    have:=m.k.lt b rfl;exact hS b ud this.2
  | succ o=> exact absurd m.k (by
        intro h;rcases h.2 with ⟨h1,-⟩ | ⟨g,cap,cur,h1,-⟩
        ·cases h1
        cases h1)
 ·subst e
  cases o with
  | zero=>
    have:=m.v.lt b rfl;exact hS b ud this.2
  | succ o=> exact absurd m.v (by
        intro h;rcases h.2 with ⟨h1,-⟩ | ⟨g,cap,cur,h1,-⟩
        ·cases h1
        cases h1)
 have:=hv.ats;rw [List.map_map] at this;exact this
end
section
open Go.RowKit
theorem zeW (h:zM zaW 4 w a n es) (hn:n<=1000):
 χ 150 #[σ a n c] w fun r w'=> ∃p,r=ρ (zv p)/\zQ w' (fun j=> w.heap.size<=j/\j < w'.heap.size) p (zbM es)/\θ w.heap.size w w':=by
 have Ac:=h.1;have HH:=zh h;clear h;have YR:(w.alloc (zcd (σ none 0 0) (σ none 0 0))).heap[w.heap.size]? =some (zcd (σ none 0 0) (σ none 0 0)):=heap_alloc_new w _;have m0:zaS w.heap.size (zcd (σ none 0 0) (σ none 0 0)) w.heap.size (zcd (σ none 0 0) (σ none 0 0)) w (σ none 0 0) (σ none 0 0) [] [] (w.alloc (zcd (σ none 0 0) (σ none 0 0))):=
  ⟨World.ownsRow_nil _ _ _ _,World.ownsRow_nil _ _ _ _,(fun g e=> by cases e),YR,YR,(fun e=> by cases e),(fun e=> by cases e),zr.alloc zl _⟩
 have M9:=zh m0;unfold zcd at M9;clear m0 YR;unfold zv;go_enter func150,ntmps150;go_wp2_with fail;generalize w.alloc (.cells #[.bool true,σ none 0 0,σ none 0 0,σ none 0 0,ν 0] 227)=w0 at *;generalize hB:w.heap.size=B at *
 go_loopw [10] (fun u10 wr=> ∃i:Nat,∃kv vv:Value,i<=n/\u10= ι i/\zaS B (zcd kv vv) B (zcd kv vv) w kv vv ((es.take i).map (·.1)) ((es.take i).map (·.2)) wr) (fun u10 _=> n - (intOf u10).toNat)
 case atStart=> exact ⟨0,σ none 0 0,σ none 0 0,by omega,rfl,M9.out⟩
 case round=>
  obtain ⟨i,kv,vv,hi,rfl,m⟩:=hrel;obtain ⟨ka0,kn0,kc0,rfl⟩:=m.k.form;obtain ⟨va0,vn0,vc0,rfl⟩:=m.v.form
  by_cases hlt:i < n
  ·have Bb:(i:Int) < (n:Int):=by omega
   obtain ⟨e,he⟩:∃e,es[i]? =some e:=⟨_,ze (by omega)⟩
   have Ah:=HH.out.below m.below (by omega)
   obtain ⟨b,o,rfl,hc⟩:=Ah.2 i e he;have c0:=hc 0 _ rfl;have c1:=hc 1 _ rfl;have c2:=hc 2 _ rfl;have c3:=hc 3 _ rfl;simp only [Nat.add_zero] at c0;have Gi:es.take (i+1)=es.take i++ [e]:=by rw [List.take_add_one,he];rfl
   have WJ:=zh Gi;have Du:((es.take i).map (·.1)).length<=100000000:=by rw [List.length_map,List.length_take];omega
   have MF:((es.take i).map (·.2)).length<=100000000:=by rw [List.length_map,List.length_take];omega
   have m1:zaS B (.cells #[.bool true,σ ka0 kn0 kc0,σ va0 vn0 vc0,σ none 0 0,ν 0] 227) wr.heap.size (.cells #[τ (zj e.1),ν (zo e.1),υ (zp e.1),ν e.2] 113) w (σ ka0 kn0 kc0) (σ va0 vn0 vc0) ((es.take i).map (·.1)) ((es.take i).map (·.2)) (wr.alloc (.cells #[τ (zj e.1),ν (zo e.1),υ (zp e.1),ν e.2] 113)):=by
        have m2:=m.alloc (.cells #[τ (zj e.1),ν (zo e.1),υ (zp e.1),ν e.2] 113);exact ⟨m2.k,m2.v,m2.apart,m2.hp,heap_alloc_new wr _,fun h=> by have:=(m.k.lt _ h).2;omega,fun h=> by have:=(m.v.lt _ h).2;omega,m2.below⟩
   have VR:=zh m.lt.1;clear Gi m hc Ah Ac he;go_wp2_with fail;clear c0 c1 c2 c3;generalize wr.alloc (.cells #[τ (zj e.1),ν (zo e.1),υ (zp e.1),ν e.2] 113)=wx at *;have vQ:B < wr.heap.size:=VR.out;generalize wr.heap.size=eb at *;have TE:eb≠B:=by omega
   have BO:=zh (fun g (h:(Value.slice ka0 kn0 kc0).ownBlock=some g)=> (m1.k.lt g h).2);have M1:=zh m1;have Av:=m1.drew.late;clear m1 vQ;refine zy (by kernel_rfl) [1,20,21,22,23] (zhZ eb (τ (zj e.1)) (ν (zo e.1)) (υ (zp e.1)) (ν e.2)) (zmO B (σ ka0 kn0 kc0) (σ va0 vn0 vc0)) ?_
   refine zdd 1 (some 15) (v:= ?_) rfl rfl (by decide) (by kernel_rfl) (fun _ _ _ h=> h) Av.1 (Or.inl ⟨by rfl, ?_⟩) ?_
   rotate_left
   ·(intro w' Cn;clear Cn;go_simp;try with_reducible rfl)
   try simp only [Act.put,zSs]
   refine zaa 0 (some 14) (v:= ?_) rfl rfl (by decide) (by kernel_rfl) (fun _ _ _ h=> h) Av (Or.inl ⟨by rfl, ?_⟩) ?_
   rotate_left
   ·(intro w' Cn;clear Cn;go_simp;try with_reducible rfl)
   try simp only [Act.put,zSs]
   refine zaa 2 (some 16) (v:= ?_) rfl rfl (by decide) (by kernel_rfl) (fun _ _ _ h=> h) Av (Or.inl ⟨by rfl, ?_⟩) ?_
   rotate_left
   ·(intro w' Cn;clear Cn;go_simp;try with_reducible rfl)
   try simp only [Act.put,zSs]
   refine zaa 3 (some 17) (v:= ?_) rfl rfl (by decide) (by kernel_rfl) (fun _ _ _ h=> h) Av (Or.inl ⟨by rfl, ?_⟩) ?_
   rotate_left
   ·(intro w' Cn;clear Cn;go_simp;try with_reducible rfl)
   try simp only [Act.put,zSs]
   refine zaa 4 (some 18) (v:= ?_) rfl rfl (by decide) (by kernel_rfl) (fun _ _ _ h=> h) Av (Or.inl ⟨by rfl, ?_⟩) ?_
   rotate_left
   ·(intro w' Cn;clear Cn;go_simp;try with_reducible rfl)
   try simp only [Act.put,zSs]
   refine zaa 5 (some 19) (v:= ?_) rfl rfl (by decide) (by kernel_rfl) (fun _ _ _ h=> h) Av (Or.inl ⟨by rfl, ?_⟩) ?_
   rotate_left
   ·(intro w' Cn;obtain ⟨⟨q0,q1,q2,q3⟩,z1,z2⟩:=Cn;go_simp;try with_reducible rfl)
   try simp only [Act.put,zSs]
   refine zaa 6 (some 20) (v:= ?_) rfl rfl (by decide) (by kernel_rfl) (fun _ _ _ h=> h) Av (Or.inl ⟨by rfl, ?_⟩) ?_
   rotate_left
   ·(intro w' Cn;clear Cn;go_simp;try with_reducible rfl)
   try simp only [Act.put,zSs]
   refine zaa 7 (some 21) (v:= ?_) rfl rfl (by decide) (by kernel_rfl) (fun _ _ _ h=> h) Av (Or.inl ⟨by rfl, ?_⟩) ?_
   rotate_left
   ·(intro w' Cn;obtain ⟨⟨q0,q1,q2,q3⟩,z1,z2⟩:=Cn;go_simp;try with_reducible rfl)
   try simp only [Act.put,zSs]
   refine zaa 10 (some 24) (v:= ?_) rfl rfl (by decide) (by kernel_rfl) (fun _ _ _ h=> h) Av (Or.inl ⟨by rfl, ?_⟩) ?_
   rotate_left
   ·(intro w' Cn;clear Cn;go_simp;try with_reducible rfl)
   try simp only [Act.put,zSs]
   refine zaa 11 (some 25) (v:= ?_) rfl rfl (by decide) (by kernel_rfl) (fun _ _ _ h=> h) Av (Or.inl ⟨by rfl, ?_⟩) ?_
   rotate_left
   ·(intro w' Cn;clear Cn;go_simp;try with_reducible rfl)
   try simp only [Act.put,zSs]
   refine zaa 12 (some 26) (v:= ?_) rfl rfl (by decide) (by kernel_rfl) (fun _ _ _ h=> h) Av (Or.inl ⟨by rfl, ?_⟩) ?_
   rotate_left
   ·(intro w' Cn;clear Cn;go_simp;try with_reducible rfl)
   try simp only [Act.put,zSs]
   refine zaa 13 (some 27) (v:= ?_) rfl rfl (by decide) (by kernel_rfl) (fun _ _ _ h=> h) Av (Or.inl ⟨by rfl, ?_⟩) ?_
   rotate_left
   ·(intro w' Cn;obtain ⟨⟨q0,q1,q2,q3⟩,z1,z2⟩:=Cn;go_simp;try with_reducible rfl)
   try simp only [Act.put,zSs]
   refine zaa 14 (some 28) (v:= ?_) rfl rfl (by decide) (by kernel_rfl) (fun _ _ _ h=> h) Av (Or.inl ⟨by rfl, ?_⟩) ?_
   rotate_left
   ·(intro w' Cn;clear Cn;go_simp;try with_reducible rfl)
   try simp only [Act.put,zSs]
   refine zaa 15 (some 29) (v:= ?_) rfl rfl (by decide) (by kernel_rfl) (fun _ _ _ h=> h) Av (Or.inl ⟨by rfl, ?_⟩) ?_
   rotate_left
   ·(intro w' Cn;obtain ⟨⟨q0,q1,q2,q3⟩,z1,z2⟩:=Cn;go_simp;try with_reducible rfl)
   try simp only [Act.put,zSs]
   refine zbq (i:=8) (i':=16) (by kernel_rfl) rfl rfl (fun K hK=> ?A) (fun K hK=> ?B)
   case' A=>
        go_simp;have m1:=(M1.out.alloc (.cells #[τ (zj e.1),ν (zo e.1),υ (zp e.1)] 111)).drew;have p1:zM zhn 3 (wx.alloc (.cells #[τ (zj e.1),ν (zo e.1),υ (zp e.1)] 111)).drew (some ⟨wx.heap.size,0,none⟩) 1 [e.1]:=zM.new (enc:=zhn) wx e.1 111;have C6:wx.heap.size < (wx.alloc (.cells #[τ (zj e.1),ν (zo e.1),υ (zp e.1)] 111)).drew.heap.size:=by (show wx.heap.size < (World.alloc _ _).heap.size;rw [World.alloc_size];omega)
        refine hK.out _ _ m1.lateH ?_;clear hK K Av;generalize (wx.alloc (.cells #[τ (zj e.1),ν (zo e.1),υ (zp e.1)] 111)).drew=W1 at *;have ED:=fun g h=> BO.out g h;generalize wx.heap.size=kb at *;refine zbq (i:=9) (i':=16) (by kernel_rfl) rfl rfl (fun K hK=> ?A1) (fun K hK=> ?A2)
   case' A1=>
        refine zfF (v:=σ ka0 kn0 kc0) (o:=⟨some 23,_,_,_,_,_⟩) rfl _ _ rfl rfl rfl m1 p1 Du ?_;intro kv1 W2 m2 Cf;obtain ⟨ka1,kn1,kc1,rfl⟩:=m2.k.form
        try simp only [Act.put,zSs]
        have m3:=m2.alloc (.cells #[ν e.2] 73);have q3:zM zfg 1 (W2.alloc (.cells #[ν e.2] 73)) (some ⟨W2.heap.size,0,none⟩) 1 [e.2]:=zM.new (enc:=zfg) W2 e.2 73;refine hK.out _ _ m2.lateH ?_;clear hK K;refine zd (i:=16) (by kernel_rfl) rfl (fun K hK=> ?_)
        go_simp;refine hK.out _ _ m3.lateH ?_;clear hK K m1 p1 C6 m2 Cf;generalize W2.alloc (.cells #[ν e.2] 73)=W3 at *;generalize W2.heap.size=ub at *
   case' A2=>
        go_simp;have m0:=m1.alloc (.cells #[ν e.2] 73);have p2:=p1.alloc (.cells #[ν e.2] 73);have q2:zM zfg 1 (W1.alloc (.cells #[ν e.2] 73)) (some ⟨W1.heap.size,0,none⟩) 1 [e.2]:=zM.new (enc:=zfg) W1 e.2 73;have GP:W1.heap.size < (W1.alloc (.cells #[ν e.2] 73)).heap.size:=by (rw [World.alloc_size];omega)
        have qj:∀g,(Value.slice ka0 kn0 kc0).ownBlock=some g->g < W1.heap.size:=fun g h=> (m1.k.lt g h).2;refine hK.out _ _ m0.lateH ?_;clear hK K;generalize W1.alloc (.cells #[ν e.2] 73)=W0 at *;generalize W1.heap.size=ub at *;refine zd (i:=9) (by kernel_rfl) rfl (fun K hK=> ?_)
        refine zfF (v:=σ ka0 kn0 kc0) (o:=⟨some 23,_,_,_,_,_⟩) rfl _ _ rfl rfl rfl m0 p2 Du ?_;intro kv1 W2 m2 Cf;obtain ⟨ka1,kn1,kc1,rfl⟩:=m2.k.form
        try simp only [Act.put,zSs]
        have q3:=q2.apartG Cf GP (fun h=> by have:=qj _ h.symm;omega)
        have m3:=m2;refine hK.out _ _ m2.lateH ?_;clear hK K m1 p1 C6 m2 m0 p2 q2 GP qj Cf;generalize W2=W3 at *
   case' B=>
        go_simp;have m1:=(M1.out.alloc (.cells #[ν e.2] 73)).drew;have q1:zM zfg 1 (wx.alloc (.cells #[ν e.2] 73)).drew (some ⟨wx.heap.size,0,none⟩) 1 [e.2]:=zM.new (enc:=zfg) wx e.2 73;have C6:wx.heap.size < (wx.alloc (.cells #[ν e.2] 73)).drew.heap.size:=by (show wx.heap.size < (World.alloc _ _).heap.size;rw [World.alloc_size];omega)
        refine hK.out _ _ m1.lateH ?_;clear hK K Av;generalize (wx.alloc (.cells #[ν e.2] 73)).drew=W1 at *;have ED:=fun g h=> BO.out g h;generalize wx.heap.size=ub at *;refine zd (i:=8) (by kernel_rfl) rfl (fun K hK=> ?_)
        go_simp;have m0:=m1.alloc (.cells #[τ (zj e.1),ν (zo e.1),υ (zp e.1)] 111);have q2:=q1.alloc (.cells #[τ (zj e.1),ν (zo e.1),υ (zp e.1)] 111);have p2:zM zhn 3 (W1.alloc (.cells #[τ (zj e.1),ν (zo e.1),υ (zp e.1)] 111)) (some ⟨W1.heap.size,0,none⟩) 1 [e.1]:=zM.new (enc:=zhn) W1 e.1 111;have GP:ub < (W1.alloc (.cells #[τ (zj e.1),ν (zo e.1),υ (zp e.1)] 111)).heap.size:=by (rw [World.alloc_size];omega)
        refine hK.out _ _ m0.lateH ?_;clear hK K;generalize W1.alloc (.cells #[τ (zj e.1),ν (zo e.1),υ (zp e.1)] 111)=W0 at *;generalize W1.heap.size=kb at *;refine zd (i:=9) (by kernel_rfl) rfl (fun K hK=> ?_)
        refine zfF (v:=σ ka0 kn0 kc0) (o:=⟨some 23,_,_,_,_,_⟩) rfl _ _ rfl rfl rfl m0 p2 Du ?_;intro kv1 W2 m2 Cf;obtain ⟨ka1,kn1,kc1,rfl⟩:=m2.k.form
        try simp only [Act.put,zSs]
        have q3:=q2.apartG Cf GP (fun h=> by have:=ED _ h.symm;omega)
        have m3:=m2;refine hK.out _ _ m2.lateH ?_;clear hK K m1 q1 C6 m2 m0 p2 q2 GP Cf;generalize W2=W3 at *
   all_goals
        clear ED M1 BO;refine zd (i:=17) (by kernel_rfl) rfl (fun K hK=> ?_)
        refine znn (v:=σ va0 vn0 vc0) (o:=⟨some 31,_,_,_,_,_⟩) rfl _ _ rfl rfl rfl m3 q3 MF ?_;intro vv1 W4 m4 Cy;obtain ⟨va1,vn1,vc1,rfl⟩:=m4.v.form
        try simp only [Act.put,zSs]
        refine hK.out _ _ m4.lateH ?_;clear hK K m3 q3 Cy;have Av:=m4.late;refine zaa 18 (some 32) (v:= ?_) rfl rfl (by decide) (by kernel_rfl) (fun _ _ _ h=> h) Av (Or.inl ⟨by rfl, ?_⟩) ?_
        rotate_left
        ·(intro w' Cn;clear Cn;go_simp;try with_reducible rfl)
        try simp only [Act.put,zSs]
        refine zaa 19 (some 33) (v:= ?_) rfl rfl (by decide) (by kernel_rfl) (fun _ _ _ h=> h) Av (Or.inl ⟨by rfl, ?_⟩) ?_
        rotate_left
        ·(intro w' Cn;clear Cn;go_simp;try with_reducible rfl)
        try simp only [Act.put,zSs]
        obtain ⟨y1,y2,y3,y4⟩:=m4.node;have GQ:=zjU (p:=B) (i:=1) (x:=σ ka1 kn1 kc1) TE Av.1;have NZ:=zjU (p:=B) (i:=2) (x:=σ va1 vn1 vc1) TE GQ;have Az:zhZ eb _ _ _ _ _:=GQ;have B9:zhZ eb _ _ _ _ _:=NZ;clear GQ NZ Av;refine zd (i:=20) (by kernel_rfl) rfl (fun K hK=> ?_)
        go_simp;refine hK.out _ _ ⟨Az,fun h=> absurd h (by decide)⟩ ?_
        clear hK K;have Av:=zn Az True.intro;refine zdd 21 (some 34) (v:= ?_) rfl rfl (by decide) (by kernel_rfl) (fun _ _ _ h=> h) Av.1 (Or.inl ⟨by rfl, ?_⟩) ?_
        rotate_left
        ·(intro w' Cn;clear Cn;go_simp;try with_reducible rfl)
        try simp only [Act.put,zSs]
        refine zdd 22 (some 35) (v:= ?_) rfl rfl (by decide) (by kernel_rfl) (fun _ _ _ h=> h) Av.1 (Or.inl ⟨by rfl, ?_⟩) ?_
        rotate_left
        ·(intro w' Cn;clear Cn;go_simp;try with_reducible rfl)
        try simp only [Act.put,zSs]
        refine zd (i:=23) (by kernel_rfl) rfl (fun K hK=> ?_)
        go_simp;refine hK.out _ _ ⟨B9,fun h=> absurd h (by decide)⟩ ?_
        clear hK K Av Az B9;refine zI (by kernel_rfl) ?_ _
        go_wp2_with fail;have hf:=m4.to (σ ka1 kn1 kc1) (σ va1 vn1 vc1)
        go_roundw
        case rel=> exact ⟨i+1,σ ka1 kn1 kc1,σ va1 vn1 vc1,by omega,by go_num,by rw [WJ.out,List.map_append,List.map_append];exact hf⟩
        case measure=> simp [intOf];omega
  obtain rfl:i=n:=by omega
  rw [zk (by omega)] at m
  have hd:=zld m (fun j=> B<=j/\j < wr.heap.size) (fun j h1 h2=> ⟨h1,h2⟩);have HD:=zh (zn hd m.below);clear hd m;go_wp2_with fail;go_ret;exact ⟨B,rfl,by rw [hB];exact HD.out.1,by rw [hB];exact HD.out.2⟩
end
end Go.Proofs.YtaoceecfjlkmdaaGreat
