/- Lemmas of the walks, merged and pressed by press.py. Conditions: those of each theorem. -/
import Derived.Test.YtaoceecfjlkmdaaGreatM4
import Derived.Test.YtaoceecfjlkmdaaGreatM2
import Derived.Test.YtaoceecfjlkmdaaGreatM3
import Derived.Lib.Overlaps
import Derived.Shelf.RegionOpenPlain
set_option maxRecDepth 100000
set_option maxHeartbeats 64000000
set_option linter.all false
namespace Go.Proofs.YtaoceecfjlkmdaaGreat
open Tryz
variable {K:Act→World→Prop} {l:List En} {B C b d k n p pt s vb:Nat} {S:Nat→Prop} {P:Program} {t ta tb:TypeId} {v v' z:Value} {W w w':World}
section
open Go.RowKit
def zd1 (e:En):Value:= .agg #[τ (zj e.1),ν (zo e.1),υ (zp e.1),ν e.2]
theorem laid4 (w:World) (a b c d:Value) (t:TypeId):(w.alloc (.cells #[a,b,c,d] t)).drew w=some a/\(w.alloc (.cells #[a,b,c,d] t)).drew ⟨↑w,1,none⟩=some b/\(w.alloc (.cells #[a,b,c,d] t)).drew ⟨↑w,2,none⟩=some c/\(w.alloc (.cells #[a,b,c,d] t)).drew ⟨↑w,3,none⟩=some d:=by
 have h:∀k,(w.alloc (.cells #[a,b,c,d] t)).drew ⟨↑w,k,none⟩=(#[a,b,c,d]:Array Value)[k]? :=fun k=> by
  show (match (w.alloc (.cells #[a,b,c,d] t)).heap[w.heap.size]? with
   | some (.cells c _ _)=> c[k]?
   | _=> none)=_
  rw [heap_alloc_new]
 exact ⟨h 0,h 1,h 2,h 3⟩
theorem zgR (tmps:Array Value) (B:Nat) (v0 v1 v2 v3:Value) (W:World) (h:tmps[4]? =some (π (some ↑B))) (q0:W B=some v0) (q1:W (B 1 ())=some v1) (q2:W (B 2 ())=some v2) (q3:W (B 3 ())=some v3):
 (results Tryz.f84 tmps).run prog W= .ok (.agg #[v0,v1,v2,v3]) W:=by
 simp [results,Tryz.results84,go_sem,h,q0,q1,q2,q3]
theorem zmj {t:Tr 0} (ht:zQ w S p t) (i:Nat) (e:En) (he:(zS t)[i]? =some e):
 χ 84 #[zv p,↑i] w fun r w'=> r=ρ (zd1 e)/\θ w w w':=by
 obtain ⟨ka,kc,va,vc,AH,Eu,JN⟩:=ht;obtain ⟨-,b1,b2,-,hp⟩:=AH.reads;have hi:=(zi he).1;obtain ⟨kb,ko,k,rfl,hk,c0,c1,c2⟩:=Eu.list i hi;have Ys:k=e.1:=by
  have:(zC t)[i]? =some e.1:=by
   show ((zS t).map (·.1))[i]? =_
   rw [List.getElem?_map,he];rfl
  rw [hk] at this;exact Option.some.inj this
 subst Ys;obtain ⟨vb,vo,rfl,c3⟩:=JN.2 i (atV e.2) (by rw [List.getElem?_map,he];rfl)
 unfold atV at c3;have Bb:(i:Int) < ((zS t).length:Int):=ud;generalize (zS t).length=n at *;have Z:=zu b1 (.cells #[τ 0,ν 0,υ 0,ν 0] 113);have Z2:=zu b2 (.cells #[τ 0,ν 0,υ 0,ν 0] 113);have d0:=zu c0 (.cells #[τ 0,ν 0,υ 0,ν 0] 113);have d1:=zu c1 (.cells #[τ 0,ν 0,υ 0,ν 0] 113);have d2:=zu c2 (.cells #[τ 0,ν 0,υ 0,ν 0] 113);have d3:=zu c3 (.cells #[τ 0,ν 0,υ 0,ν 0] 113);unfold zv zd1;go_in;go_wp2_with fail
 go_region
 all_goals
  go_wp2_with fail;have hL:=laid4 w (τ (zj e.1)) (ν (zo e.1)) (υ (zp e.1)) (ν e.2) 113;refine bodyPost_ret (zgR _ ↑w _ _ _ _ _ rfl hL.1 hL.2.1 hL.2.2.1 hL.2.2.2) rfl ?_;exact ⟨rfl,Below.drewB (zr.alloc zl _)⟩
theorem zf2.leaf:∀{d:Nat} {p:Nat} {t:Tr d} {path:List (Nat × Nat)} {pl:Nat} {lt:Tr 0},zf2 w S k p t path pl lt->0 < zH t->zH t<=6->zax t->zac (flatT t)->
 zQ w S pl lt/\0 < zH lt/\zH lt<=6/\zac (flatT lt)/\zdK t k=zdK lt k
 | 0,_,_,_,_,_,h,h0,h6,_,hr=> by
   obtain ⟨-,rfl,rfl,hn⟩:=h;exact ⟨hn,h0,h6,hr,rfl⟩
 | d+1,_,t,_,_,_,⟨_,q,c,path',_,h2,_,h4⟩,_,_,hK,hr=> by
   have Ce:=zm h2;have hF:=zag.kid hK Ce;obtain ⟨a1,a2,a3,a4,a5⟩:=zf2.leaf h4 uaa hF.hi hF.kids (zbu hr Ce);refine ⟨a1,a2,a3,a4, ?_⟩;rw [<- a5]
   conv=> lhs;unfold zdK
   rw [h2]
   rfl
theorem zmm (hr:zac l) (k:Nat):zb2 l k=if 0<=zdI (l.map (·.1)) k then l[(zdI (l.map (·.1)) k).toNat]? else none:=by
 have hm:((l.map (·.1)).filter fun x=> decide (x<=k)).length=(l.filter fun x=> decide (x.1<=k)).length:=by
  rw [List.filter_map,List.length_map];rfl
 have hk :l.filter (fun x=> decide (x.1<=k))=l.take (l.filter fun x=> decide (x.1<=k)).length:=by
  clear hm
  induction l with
  | nil=> rfl
  | cons x l ih=>
    unfold zac at hr ih;rw [List.pairwise_cons] at hr
    by_cases hx:x.1<=k
    ·rw [List.filter_cons_of_pos ubc,List.length_cons,List.take_succ_cons,<- ih hr.2]
    have:l.filter (fun x=> decide (x.1<=k))= []:=by
        rw [List.filter_eq_nil_iff];intro y hy;have:=hr.1 y hy;simp;omega
    rw [List.filter_cons_of_neg ubc,this]
    rfl
 unfold zb2 zdI;rw [hm];have BO:=List.length_filter_le (fun x:En=> decide (x.1<=k)) l;rw [hk];generalize (l.filter fun x=> decide (x.1<=k)).length=c at *;rw [List.length_take];rcases Nat.eq_zero_or_pos c with rfl | hc
 ·simp
 rw [if_pos ud,List.getLast?_eq_getElem?,List.length_take,List.getElem?_take_of_lt ud]
 congr 1
 omega
theorem zcw (tmps:Array Value) (B:Nat) (e v0 v1 v2 v3:Value) (W:World) (h:tmps[4]? =some (π (some ↑B))) (h5:tmps[5]? =some e) (q0:W B=some v0) (q1:W (B 1 ())=some v1) (q2:W (B 2 ())=some v2) (q3:W (B 3 ())=some v3):
 (results Tryz.f44 tmps).run prog W= .ok (.tuple #[.agg #[v0,v1,v2,v3],e]) W:=by
 simp [results,Tryz.results44,go_sem,h,h5,q0,q1,q2,q3]
theorem zoJ {a b c d:Value}  (h:W.heap[B]? =some (.cells #[a,b,c,d] t (0,0))):
 W B=some a/\W (B 1 ())=some b/\W (B 2 ())=some c/\W (B 3 ())=some d/\∀j,W.frozen? (B j ())=false:=by
 refine ⟨?_, ?_, ?_, ?_,fun j=> ?_⟩ <;> simp [World.cell?,World.frozen?,h]
theorem set4 {a b c d:Value}  (h:W.heap[B]? =some (.cells #[a,b,c,d] t (0,0))) (v0 v1 v2 v3:Value):
 ((((W.setCell ↑B v0).setCell (B 1 ()) v1).setCell (B 2 ()) v2).setCell (B 3 ()) v3).heap[B]? =some (.cells #[v0,v1,v2,v3] t (0,0)):=
 heap_setCell_same _ B 3 _ _ v3 (heap_setCell_same _ B 2 _ _ v2 (heap_setCell_same _ B 1 _ _ v1 (heap_setCell_same W B 0 _ _ v0 h)))
theorem zci (h:θ C w W) (hB:C<=B) (v0 v1 v2 v3:Value):θ C w ((((W.setCell ↑B v0).setCell (B 1 ()) v1).setCell (B 2 ()) v2).setCell (B 3 ()) v3):=
 (((h.setCell (p:=↑B) hB v0).setCell (p:=(B 1 ())) hB v1).setCell (p:=(B 2 ())) hB v2).setCell (p:=(B 3 ())) hB v3
def zhR:Option En->Value
 | none=> .tuple #[.agg #[τ 0,ν 0,υ 0,ν 0], .bool false]
 | some e=> .tuple #[zd1 e, .bool true]
theorem zkW {t:Tr d} (h:zaw w pt (some p) n) (ht:zQ w S p t) (hS:∀j,S j->j < w.heap.size) (h0:0 < zH t) (h6:zH t<=6) (hK:zax t) (hr:zac (flatT t)) (hd:d<=15) (k:Nat):
 χ 44 #[zv pt,za2 k] w fun r w'=> r=ρ (zhR (zb2 (flatT t) k))/\θ w.heap.size w w':=by
 have Aq:θ w.heap.size w ((w.alloc (.cells #[τ (zj k),ν (zo k),υ (zp k)] 111)).alloc (.cells #[τ 0,ν 0,υ 0,ν 0] 113)):=(zr.alloc zl _).alloc (by simp) _
 have x0:((w.alloc (.cells #[τ (zj k),ν (zo k),υ (zp k)] 111)).alloc (.cells #[τ 0,ν 0,υ 0,ν 0] 113)).cell? ⟨w.heap.size,0,none⟩=some (τ (zj k)):=zu (by simp) _
 have x1:((w.alloc (.cells #[τ (zj k),ν (zo k),υ (zp k)] 111)).alloc (.cells #[τ 0,ν 0,υ 0,ν 0] 113)).cell? ⟨w.heap.size,1,none⟩=some (ν (zo k)):=zu (by simp) _
 have x2:((w.alloc (.cells #[τ (zj k),ν (zo k),υ (zp k)] 111)).alloc (.cells #[τ 0,ν 0,υ 0,ν 0] 113)).cell? ⟨w.heap.size,2,none⟩=some (υ (zp k)):=zu (by simp) _
 have AR:((w.alloc (.cells #[τ (zj k),ν (zo k),υ (zp k)] 111)).alloc (.cells #[τ 0,ν 0,υ 0,ν 0] 113)).heap.size=w.heap.size+2:=by simp
 have ho:((w.alloc (.cells #[τ (zj k),ν (zo k),υ (zp k)] 111)).alloc (.cells #[τ 0,ν 0,υ 0,ν 0] 113)).heap[w.heap.size+1]? =some (.cells #[τ 0,ν 0,υ 0,ν 0] 113):=by
  have:=heap_alloc_new (w.alloc (.cells #[τ (zj k),ν (zo k),υ (zp k)] 111)) (.cells #[τ 0,ν 0,υ 0,ν 0] 113);rw [show (w.alloc (.cells #[τ (zj k),ν (zo k),υ (zp k)] 111)).heap.size=w.heap.size+1 by simp] at this
  exact this
 have Ew:pt < w.heap.size:=(zg h).1;have hW:=zhm (w:=((w.alloc (.cells #[τ (zj k),ν (zo k),υ (zp k)] 111)).alloc (.cells #[τ 0,ν 0,υ 0,ν 0] 113))) (show zaw ((w.alloc (.cells #[τ (zj k),ν (zo k),υ (zp k)] 111)).alloc (.cells #[τ 0,ν 0,υ 0,ν 0] 113)) pt (some p) n from (Aq.block pt Ew).trans h) (ht.same (zbk.of_below Aq hS)) (fun j hj=> by rw [AR];have:=hS j hj;omega) h0 h6 hK hr hd k
 rw [<- zgg h0 hK hr k];have HW:=zh hW;unfold za2 zv at HW ⊢;clear hW h ht;go_enter func44,ntmps44;go_wp2_with fail;generalize ((w.alloc (.cells #[τ (zj k),ν (zo k),υ (zp k)] 111)).alloc (.cells #[τ 0,ν 0,υ 0,ν 0] 113))=w0 at *;refine HW.out.mono ?_;rintro r w3 ⟨q,path,pl,lt,rfl,-,-,D9,Am⟩;obtain ⟨hN,l0,l6,KX,EP⟩:=D9.leaf h0 h6 hK hr;have z0:w3.cell? ⟨w.heap.size,0,none⟩=some (τ (zj k)):=by rw [Am.cell (p:=⟨w.heap.size,0,none⟩) (by show w.heap.size < w0.heap.size;omega)];exact x0
 have z1:w3.cell? ⟨w.heap.size,1,none⟩=some (ν (zo k)):=by rw [Am.cell (p:=⟨w.heap.size,1,none⟩) (by show w.heap.size < w0.heap.size;omega)];exact x1
 have z2:w3.cell? ⟨w.heap.size,2,none⟩=some (υ (zp k)):=by rw [Am.cell (p:=⟨w.heap.size,2,none⟩) (by show w.heap.size < w0.heap.size;omega)];exact x2
 have A6:w3.heap[w.heap.size+1]? =some (.cells #[τ 0,ν 0,υ 0,ν 0] 113):=by rw [Am.block _ (by omega)];exact ho
 have Nc:=Aq.trans (Am.mono (by omega))
 have HF:=zh (zjT hN (by omega) (zdP (d:=0) (t:=lt) trivial KX) k)
 have HN:=zh hN;have Mv:zdK t k=if 0<=zdI (zC lt) k then (zS lt)[(zdI (zC lt) k).toNat]? else none:=by
  rw [EP];exact zmm KX k
 have Io:=zh Mv;have F5:zdI (zC lt) k < (zS lt).length:=by
  unfold zdI;have:=List.length_filter_le (fun x=> decide (x<=k)) (zC lt);rw [zgY] at this
  show _ < ((zH lt:Nat):Int)
  omega
 unfold za2 zv at HF;clear D9 hN EP Mv HW KX hr hK x0 x1 x2 ho;generalize zdI (zC lt) k=z at *;go_wp2_with fail;refine HF.out.mono ?_;rintro r w4 ⟨rfl,Ar⟩;have Bf:w4.heap[w.heap.size+1]? =some (.cells #[τ 0,ν 0,υ 0,ν 0] 113):=by rw [Ar.block _ (zg A6).1];exact A6
 have UN:=Nc.trans (Ar.mono Nc.size)
 by_cases hz:0<=z
 ·obtain ⟨i,rfl⟩:∃i:Nat,z=i:=⟨z.toNat,by omega⟩
  have De:i < (zS lt).length:=by omega
  have JH:(zS lt)[i]? =some (zS lt)[i]:=ze De;have BQ:zdK t k=some (zS lt)[i]:=by rw [Io.out,if_pos hz];simp
  have Hj:=zh BQ;have Yz:∀j,S j->j < w3.heap.size:=fun j hj=> by have:=hS j hj;have:=Nc.size;omega
  have HE:=zh (zmj (HN.out.same (zbk.of_below Ar Yz)) i _ JH);generalize (zS lt)[i]=en at *;unfold zv zd1 at HE;have Ax:¬(i:Int) < 0:=by omega
  clear JH BQ;go_wp2_with fail;refine HE.out.mono ?_;rintro r w5 ⟨rfl,Ag⟩;have AV:w5.heap[w.heap.size+1]? =some (.cells #[τ 0,ν 0,υ 0,ν 0] 113):=by rw [Ag.block _ (zg Bf).1];exact Bf
  have UO:=UN.trans (Ag.mono UN.size);obtain ⟨q0,q1,q2,q3,qf⟩:=zoJ AV;have HO:=zh AV;clear AV Bf A6;go_wp2_with fail;have hs:=zoJ (set4 HO.out (τ (zj en.1)) (ν (zo en.1)) (υ (zp en.1)) (ν en.2));refine bodyPost_ret (zcw _ (w.heap.size+1) _ _ _ _ _ _ rfl rfl hs.1 hs.2.1 hs.2.2.1 hs.2.2.2.1) rfl ?_;exact ⟨by rw [Hj.out];rfl,zci UO (by omega) _ _ _ _⟩
 have Ax:z < 0:=by omega
 have BQ:zdK t k=none:=by rw [Io.out,if_neg hz]
 have Hj:=zh BQ;clear BQ;obtain ⟨q0,q1,q2,q3,qf⟩:=zoJ Bf;have HO:=zh Bf;clear Bf A6;go_wp2_with fail;have hs:=zoJ (set4 HO.out (τ 0) (ν 0) (υ 0) (ν 0));refine bodyPost_ret (zcw _ (w.heap.size+1) _ _ _ _ _ _ rfl rfl hs.1 hs.2.1 hs.2.2.1 hs.2.2.2.1) rfl ?_;exact ⟨by rw [Hj.out];rfl,zci UN (by omega) _ _ _ _⟩
theorem zkV (h:zaw w pt none n) (k:Nat):
 χ 44 #[zv pt,za2 k] w fun r w'=> r=ρ (zhR none)/\θ w.heap.size w w':=by
 have Aq:θ w.heap.size w ((w.alloc (.cells #[τ (zj k),ν (zo k),υ (zp k)] 111)).alloc (.cells #[τ 0,ν 0,υ 0,ν 0] 113)):=(zr.alloc zl _).alloc (by simp) _
 have x0:((w.alloc (.cells #[τ (zj k),ν (zo k),υ (zp k)] 111)).alloc (.cells #[τ 0,ν 0,υ 0,ν 0] 113)).cell? ⟨w.heap.size,0,none⟩=some (τ (zj k)):=zu (by simp) _
 have x1:((w.alloc (.cells #[τ (zj k),ν (zo k),υ (zp k)] 111)).alloc (.cells #[τ 0,ν 0,υ 0,ν 0] 113)).cell? ⟨w.heap.size,1,none⟩=some (ν (zo k)):=zu (by simp) _
 have x2:((w.alloc (.cells #[τ (zj k),ν (zo k),υ (zp k)] 111)).alloc (.cells #[τ 0,ν 0,υ 0,ν 0] 113)).cell? ⟨w.heap.size,2,none⟩=some (υ (zp k)):=zu (by simp) _
 have AR:((w.alloc (.cells #[τ (zj k),ν (zo k),υ (zp k)] 111)).alloc (.cells #[τ 0,ν 0,υ 0,ν 0] 113)).heap.size=w.heap.size+2:=by simp
 have ho:((w.alloc (.cells #[τ (zj k),ν (zo k),υ (zp k)] 111)).alloc (.cells #[τ 0,ν 0,υ 0,ν 0] 113)).heap[w.heap.size+1]? =some (.cells #[τ 0,ν 0,υ 0,ν 0] 113):=by
  have:=heap_alloc_new (w.alloc (.cells #[τ (zj k),ν (zo k),υ (zp k)] 111)) (.cells #[τ 0,ν 0,υ 0,ν 0] 113);rw [show (w.alloc (.cells #[τ (zj k),ν (zo k),υ (zp k)] 111)).heap.size=w.heap.size+1 by simp] at this
  exact this
 have Ew:pt < w.heap.size:=(zg h).1;have HW:=zh (zhl (w:=((w.alloc (.cells #[τ (zj k),ν (zo k),υ (zp k)] 111)).alloc (.cells #[τ 0,ν 0,υ 0,ν 0] 113))) (show zaw ((w.alloc (.cells #[τ (zj k),ν (zo k),υ (zp k)] 111)).alloc (.cells #[τ 0,ν 0,υ 0,ν 0] 113)) pt none n from (Aq.block pt Ew).trans h) k);unfold za2 zv at HW ⊢;clear h;go_enter func44,ntmps44;go_wp2_with fail;generalize ((w.alloc (.cells #[τ (zj k),ν (zo k),υ (zp k)] 111)).alloc (.cells #[τ 0,ν 0,υ 0,ν 0] 113))=w0 at *;refine HW.out.mono ?_;rintro r w3 ⟨q,rfl,-,-,Am⟩;have A6:w3.heap[w.heap.size+1]? =some (.cells #[τ 0,ν 0,υ 0,ν 0] 113):=by rw [Am.block _ (by omega)];exact ho
 have Nc:=Aq.trans (Am.mono (by omega))
 obtain ⟨q0,q1,q2,q3,qf⟩:=zoJ A6;have HO:=zh A6;clear A6 ho HW x0 x1 x2;go_wp2_with fail;have hs:=zoJ (set4 HO.out (τ 0) (ν 0) (υ 0) (ν 0));refine bodyPost_ret (zcw _ (w.heap.size+1) _ _ _ _ _ _ rfl rfl hs.1 hs.2.1 hs.2.2.1 hs.2.2.2.1) rfl ?_;exact ⟨rfl,zci Nc (by omega) _ _ _ _⟩
end
section
open Go.RowKit
def zaW (e:En):List Value:= [τ (zj e.1),ν (zo e.1),υ (zp e.1),ν e.2]
theorem zN (e:En):(zaW e).length=4:=rfl
theorem zbs (e:En):∀u ∈ zaW e,u.oneCell'=true:=fun u hu=> by
 simp [zaW] at hu;rcases hu with rfl | rfl | rfl | rfl <;> rfl
theorem zgi:(prog.info? 113).map (fun i=> (i.zero,i.size,i.bytes))=some (some (.agg #[τ 0,ν 0,υ 0,ν 0]),4,24):=ue
theorem zW (h:(P.info? t).map (fun i=> (i.zero,i.size,i.bytes))=some (some z,s,b)):∃i0,P.info? t=some i0/\i0.zero=some z/\i0.size=s/\i0.bytes=b:=by
 cases hi:P.info? t with
 | none=> rw [hi] at h;cases h
 | some i0=>
   rw [hi] at h;simp at h;exact ⟨i0,rfl,h.1,h.2.1,h.2.2⟩
theorem zM.one (w:World) (e:En):zM zaW 4 (w.alloc (.cells (zaW e).toArray 113)) (some ↑w) 1 [e]:=by
 refine ⟨rfl,fun i r h=> ?_⟩;have hi:i < 1:=by simpa using (zi h).1
 have:i=0:=ud;subst this;simp at h;subst h;refine ⟨↑w,0,rfl,fun j x hx=> ?_⟩
 show (match (w.alloc (.cells (zaW e).toArray 113)).heap[w.heap.size]? with
  | some (.cells c _ _)=> c[0+0 * 4+j]?
  | _=> none)=_
 rw [heap_alloc_new]
 simpa using hx
theorem zK.push (h:zK zaW 4 113 w B v l) (e:En) (hl:l.length<=100000000) (hB:B<=↑w):
 ∃v' w',(Builtin.append_ #[137,137] 137 #[v,σ (some ↑w) 1 1]).run prog (w.alloc (.cells (zaW e).toArray 113))= .ok v' w'/\zK zaW 4 113 w' B v' (l++ [e])/\w.grownBy w' v.ownBlock:=by
 obtain ⟨i0,hi,AG,Ai,Ax⟩:=zW zgi;have Af:zK zaW 4 113 (w.alloc (.cells (zaW e).toArray 113)) B v l:=by
  refine ⟨h.1, ?_⟩;rcases h.2 with h2 | ⟨g,cap,cur,hv,hg,hh,r⟩
  ·exact .inl h2
  exact .inr ⟨g,cap,cur,hv,hg,by rw [Below.heap_alloc _ _ _ (zg hh).1];exact hh,r⟩
 obtain ⟨v',w',hr,ho,hg⟩:=Af.app zN uf zbs Tryz.underlying137 hi AG Ai Ax rfl 1 (zM.one w e) ud ud uo;refine ⟨v',w',hr,ho,⟨hg.os,hg.tape,hg.output,zs uh hg.size,fun j hj Aj=> ?_⟩⟩;rw [hg.block j uo Aj,Below.heap_alloc _ _ _ hj]
theorem zbH {t:Tr 0} (ht:zQ w S p t) (hS:∀j,S j->j < ↑w) (hn:zH t<=1000):
 χ 160 #[zv p] w fun e w'=> ∃v,e=ρ v/\zK zaW 4 113 w' ↑w v (zS t)/\θ w w w':=by
 have IE:(zS t).length<=1000:=hn;obtain ⟨ka,kc,va,vc,Pd,Tk,Uo⟩:=ht;obtain ⟨-,-,a2,-,-⟩:=Pd.reads;have HX:=zh Pd;have HK:=zh Tk;have HV:=zh Uo;unfold zv;go_in;go_wp2_with fail
 go_loopw [3,11] (fun u3 u11 wr=> ∃i:Nat,i<=(zS t).length/\u11= ι i/\zK zaW 4 113 wr ↑w u3 ((zS t).take i)/\θ w w wr) (fun _ u11 _=> (zS t).length - (intOf u11).toNat)
 case atStart=> exact ⟨0,ud,rfl,World.ownsRow_nil _ _ _ _,Below.refl _ _⟩
 case round=>
  obtain ⟨i,hi,rfl,Af,AA⟩:=hrel
  by_cases hlt:i < (zS t).length
  ·have Bb:(i:Int) < ((zS t).length:Int):=ud;have FK:zbk S w wr:=zbk.of_below AA hS;obtain ⟨-,b1,b2,-,-⟩:=(HX.out.same FK).reads;obtain ⟨e,he⟩:∃e,(zS t)[i]? =some e:=⟨_,ze hlt⟩;obtain ⟨kb,ko,kk,rfl,hk,c0,c1,c2⟩:=(HK.out.same HX.out.keys FK).list i hlt;have Ys:kk=e.1:=by
        have:(zC t)[i]? =some e.1:=by
         show ((zS t).map (·.1))[i]? =_
         rw [List.getElem?_map,he];rfl
        rw [hk] at this;exact Option.some.inj this
   subst Ys;obtain ⟨vb,vo,rfl,c3⟩:=(HV.out.same HX.out.vals FK).2 i (atV e.2) (by rw [List.getElem?_map,he];rfl)
   unfold atV at c3;have Ac:((zS t).take i).length<=1000:=by rw [List.length_take];omega
   obtain ⟨v',w',BE,FJ,hg⟩:=Af.push e ud AA.size;rw [show (zS t).take i++ [e]=(zS t).take (i+1) by rw [List.take_add_one,he];rfl] at FJ
   have XO:θ w w w':=Below.own AA Af hg zl AA.size;have HO:=zh FJ;have XC:(Builtin.append_ #[137,137] 137 #[u3,σ (some ↑wr) 1 1]).run prog (wr.alloc (.cells #[τ (zj e.1),ν (zo e.1),υ (zp e.1),ν e.2] 113))= .ok v' w':=BE;generalize (zS t).length=n at *
   go_wp2_with (at_builtin;refine za rfl _ _ _ rfl XC ?_)
   go_roundw
   case rel=> exact ⟨i+1,ud,by go_num,HO.out,XO⟩
   case measure=> simp [intOf];omega
  obtain rfl:i=(zS t).length:=ud;rw [zk zl] at Af;go_wp2;go_ret;exact ⟨_,rfl,Af,AA⟩
end
section
open Go.RowKit
theorem zaY {ops:Array Oper} {o:Oper} {a:Act}   {Q:Exit->Act->World->Prop} {E:Prop}
 (hg:o.guard=none) (d x:Operand) (dT sT:TypeId) (GL:o.op=Op.call {callee:=Callee.builtin Builtin.copy,args:=#[d,x],argTypes:=#[dT,sT]})
 (v u:Value) (hd:a.eval d=v) (hx:a.eval x=u)   (hr:(Builtin.copy_ #[dT,sT] o.type #[v,u]).run P w= .ok v' w') (hK:K (a.put o.dst v') w'):
 if Region.wanted o (yielded ops a.tmps)=true then Oper.wp P o a w K Q else E:=by
 have hw:Region.wanted o (yielded ops a.tmps)=true:=by simp [Region.wanted,hg]
 rw [if_pos hw];unfold Oper.wp;simp [execOp,GL,resolve,invoke,builtin,hd,hx,hr,Result.andThen];exact hK
theorem zaE {ops:Array Oper} {rest:List Oper} {o:Oper} {a:Act} {Q:Exit->Act->World->Prop} (Ib:o.guard=none) (d s:Operand) (t t':TypeId)
 (ho:o.op= .call {callee:= .builtin .copy,args:=#[d,s],argTypes:=#[t,t']})  
 (hr:(Builtin.copy_ #[t,t'] o.type #[a.eval d,a.eval s]).run P w= .ok v' w') (h:wpList P ops Q rest (a.put o.dst v') w'):wpList P ops Q (o::rest) a w:=
 wpList_plain Ib fun _ hK=> by
  unfold Oper.wp execOp;simp only [ho,resolve,invoke,builtin,Sem.run_bind,Sem.run_pure,Result.andThen_ok,List.map_toArray,List.map_cons,List.map_nil,hr];exact hK _ _ h
theorem zL {ops:Array Oper} {o:Oper} {a:Act}   {Q:Exit->Act->World->Prop} {E:Prop}
 (hg:o.guard=none) (d x:Operand) (dT sT:TypeId) (GL:o.op=Op.call {callee:=Callee.builtin Builtin.append,args:=#[d,x],argTypes:=#[dT,sT]})
 (v u:Value) (hd:a.eval d=v) (hx:a.eval x=u)   (hr:(Builtin.append_ #[dT,sT] o.type #[v,u]).run P w= .ok v' w') (hK:K (a.put o.dst v') w'):
 if Region.wanted o (yielded ops a.tmps)=true then Oper.wp P o a w K Q else E:=by
 have hw:Region.wanted o (yielded ops a.tmps)=true:=by simp [Region.wanted,hg]
 rw [if_pos hw];unfold Oper.wp;simp [execOp,GL,resolve,invoke,builtin,hd,hx,hr,Result.andThen];exact hK
theorem za8 {ops:Array Oper} {rest:List Oper} {o:Oper} {a:Act} {Q:Exit->Act->World->Prop} (Ib:o.guard=none) (s x:Operand) (t t':TypeId)
 (ho:o.op= .call {callee:= .builtin .append,args:=#[s,x],argTypes:=#[t,t']})  
 (Be:(Builtin.append_ #[t,t'] o.type #[a.eval s,a.eval x]).run P w= .ok v' w') (h:wpList P ops Q rest (a.put o.dst v') w'):wpList P ops Q (o::rest) a w:=
 wpList_plain Ib fun _ hK=> by
  unfold Oper.wp execOp;simp only [ho,resolve,invoke,builtin,Sem.run_bind,Sem.run_pure,Result.andThen_ok,List.map_toArray,List.map_cons,List.map_nil,Be];exact hK _ _ h
theorem zjf {ca cb:Array Value}  (h1:w.heap[vb]? =some (.cells ca ta (0,0))) (h2:w.heap[b]? =some (.cells cb tb (0,0))) (Aj:vb≠b) (Ay:cb.size≠0) (o la va lb vc:Nat):
 (callFunc 217 #[σ (some ↑vb) la va,σ (some (b o ())) lb vc]).run prog w= .ok (.value (.bool false)) w:=by
 obtain ⟨i0,hi,AG,Ai,Ax⟩:=zW zgi;rw [run_callFunc_extern func217 ue ue ue (e:=Extern.SlicesOverlaps.overlaps #[137,137] #[4]) ue,
  Lib.run_overlaps_apart w 137 4 113 Tryz.underlying137 4 (fun w=> by simp [sizeOf,typeInfo,hi,Ai]) ↑vb (b o ()) la va lb vc Aj ta tb ca.size cb.size (by simp [World.shape?,h1]) (by simp [World.shape?,h2]) Ay (by simp [World.frozen?,h1]) (by simp [World.frozen?,h1])]
 rfl
theorem zk4 (h:zK zaW 4 113 w B v l) (i:Nat) (hi:i<=l.length) (hl:l.length<=1000)  {e:En} (hb:w.heap[b]? =some (.cells (zaW e).toArray 113 (0,0))) (Aj:v.ownBlock≠some b) (hB:B<=↑w):
 χ 193 #[v,↑i,σ (some ↑b) 1 1] w fun r w'=> ∃v',r=ρ v'/\zK zaW 4 113 w' B v' (l.take i++e::l.drop i)/\w.grownBy w' v.ownBlock:=by
 obtain ⟨i0,AD,AG,Ai,Ax⟩:=zW zgi;have GR:zM zaW 4 w (some ↑b) 1 [e]:=by
  refine ⟨rfl,fun j r hj=> ?_⟩;have EB:j < 1:=by simpa using (zi hj).1
  obtain rfl:j=0:=ud;simp at hj;subst hj;refine ⟨b,0,rfl,fun t x hx=> ?_⟩;simp [World.cell?,hb,hx]
 by_cases C2:i=l.length
 ·subst C2;obtain ⟨v',w',BE,ho,hg⟩:=h.app zN uf zbs Tryz.underlying137 AD AG Ai Ax rfl 1 GR ud ud hB;have BQ:zK zaW 4 113 w' B v' (l.take l.length++e::l.drop l.length):=by rw [List.take_length,List.drop_length];exact ho
  have HR:=zh (zn BQ hg);rcases h.cases with ⟨rfl,rfl⟩ | ⟨g,cap,rfl,Bc,BF,hR⟩
  ·go_in
   go_wp2_with (at_builtin;refine za rfl _ _ _ rfl BE ?_)
   all_goals
        go_ret;exact ⟨_,rfl,HR.out.1,HR.out.2⟩
  have BO:=hR.le;have Ce:=hR.cm;generalize l.length=n at *;go_in
  go_wp2_with (at_builtin;refine za rfl _ _ _ rfl BE ?_)
  all_goals
       go_ret;exact ⟨_,rfl,HR.out.1,HR.out.2⟩
 have hlt:i < l.length:=ud;rcases h.cases with ⟨rfl,rfl⟩ | ⟨g,cap,rfl,Bc,BF,hR⟩
 ·simp at hlt
 have G6:g≠b:=fun e=> Aj (by rw [e];rfl)
 have BO:=hR.le;have Ce:cap<=9223372036854775807:=by have:=hR.cm;unfold maxLen at this;omega
 have BJ:(l.drop i).length=l.length - i:=List.length_drop;have Ci:(l.take i).length=i:=by rw [List.length_take];omega
 have E6:=hR.row zN;have EG:zM zaW 4 w (some (g (i * 4) ())) (l.length - i) (l.drop i):=by simpa using E6.drop i
 by_cases EW:l.length+1<=cap
 ·-- in place
  obtain ⟨w1,BK,C9,-,BC⟩:=zaX zN zbs (dT:=137) (sT:=137) Tryz.underlying137 AD Ai (w:=w.drew) (hR.heap rfl) (i+1) ud (l.drop i) (g (i * 4) ()) (zM.cells zN uf (w:=w.drew) EG) uP (l.length+1 - i) (l.length - i) (by rw [BJ];simp only [Nat.min_def];split <;> omega)
  have DJ:(l.take (i+1)).length=i+1:=by rw [List.length_take];omega
  have Bu:(l.take (i+1)++l.drop i).length=l.length+1:=by rw [List.length_append,DJ,BJ];omega
  have Aa:w1.heap[b]? =some (.cells (zaW e).toArray 113 (0,0)):=(BC.block b (fun e=> G6 e.symm)).trans hb;have GS:∀j u,(zB zaW [e])[j]? =some u->w1 ((↑b:Addr).add j)=some u:=fun j u hu=> by
   rw [zdt];simp [World.cell?,Aa]
   simpa [zB] using hu
  obtain ⟨w2,B7,-,B0,A9⟩:=zaX zN zbs (dT:=137) (sT:=137) Tryz.underlying137 AD Ai C9 i (by rw [Bu];omega) [e] ↑b GS (by show i+1<=cap;omega) 1 (l.length+1 - i) uam
  have Gv:=B0 (by rw [Bu];show i+1<=_;omega)
  have AL:(l.take (i+1)++l.drop i).take i++ [e]++(l.take (i+1)++l.drop i).drop (i+ [e].length)=l.take i++e::l.drop i:=by
   rw [List.take_append_of_le_length ud,List.take_take,Nat.min_eq_left ud,show i+ [e].length=(l.take (i+1)).length by rw [DJ];rfl,List.drop_left,List.append_assoc];rfl
  rw [AL] at Gv;have BG:(l.take i++e::l.drop i).length=l.length+1:=by rw [List.length_append,List.length_cons,Ci,BJ];omega
  have Af:=Gv.own zN Bc;rw [BG] at Af;have hg:w.grownBy w2 (some g):=⟨(A9.os.trans BC.os),(A9.tape.trans BC.tape),(A9.output.trans BC.output),by rw [A9.size,BC.size];exact zl,fun j hj Aj=> by
   have IC:j≠g:=fun e=> Aj uJ;rw [A9.block j IC,BC.block j IC];rfl⟩
  have HR:=zh (zn Af hg);obtain ⟨curg,Nv,Nw,-⟩:=hR.ex;have II:=zjf hb Nv (fun e=> G6 e.symm) (by rw [Nw];omega) ((i+1) * 4) 1 1
  have BB:IntKind.i64.wrap ((i:Int)+1)=((i+1:Nat):Int):=by rw [zw _ ud];omega
  have Dw:IntKind.i64.wrap ((l.length:Int)+1)=((l.length+1:Nat):Int):=by rw [zw _ ud];omega
  have Jn:¬(i:Int)=(l.length:Int):=ud;have BH:¬((l.length+1:Nat):Int) > (cap:Int):=ud;have PM:¬cap=i+1:=ud;have PN:(0:Int)<=(i:Int)+1:=ud;have IF:i<=l.length:=ud;have QW:(i:Int)<=(l.length:Int)+1:=ud;have NM:¬cap=i:=ud;rw [BJ] at BK;generalize hn:l.length=n at *;go_in
  go_wp2_with (simp only [II])
  go_region_law (refine zaY rfl _ _ 137 137 rfl _ _ uO uX (BK _ _ _) ?_)
  go_wp2_with (at_builtin;refine zaE rfl _ _ _ _ rfl (B7 _ _ _) ?_)
  go_ret;exact ⟨_,rfl,HR.out.1,HR.out.2⟩
 -- a new row
 obtain ⟨cap1,w1,BK,C9,F9,Aa,FZ⟩:=zeD zN uf (t:=137) (tn:=3) (kq:= .i64) (kn:= .i64) Tryz.underlying137 Tryz.underlying3 AD AG Ai Ax rfl hR i ud (l.length+1 - i) ud ud ud ud;have Au:b < ↑w:=(zg hb).1;have Sk:w1.heap[b]? =some (.cells (zaW e).toArray 113 (0,0)):=(Aa.block b Au).trans hb;have GS:∀j u,(zB zaW [e])[j]? =some u->w1 ((↑b:Addr).add j)=some u:=fun j u hu=> by
  rw [zdt];simp [World.cell?,Sk]
  simpa [zB] using hu
 obtain ⟨w2,B7,B0,-,A9⟩:=zaX zN zbs (dT:=137) (sT:=137) Tryz.underlying137 AD Ai C9 i (by rw [Ci];omega) [e] ↑b GS (by show i+1<=cap1;omega) 1 (l.length+1 - i) uam
 have K0:zM zaW 4 w2.drew (some (g (i * 4) ())) (l.length - i) (l.drop i):=by
  refine EG.same (S:=fun j=> j=g) (fun b' o' e'=> by cases e';rfl) (fun j hj=> ?_)
  subst hj;exact (A9.block j ud).trans (Aa.block j BF)
 have DJ:((l.take i).take i++ [e]).length=i+1:=by rw [List.length_append,List.length_take,List.length_take];simp;omega
 obtain ⟨w3,KV,Gv,-,CA⟩:=zaX zN zbs (dT:=137) (sT:=137) Tryz.underlying137 AD Ai (w:=w2.drew) (B0.heap rfl) (i+1) (by rw [DJ];exact zl) (l.drop i) (g (i * 4) ()) (zM.cells zN uf K0) uP (l.length - i) (l.length - i) (by rw [BJ];simp)
 have AL:((l.take i).take i++ [e]).take (i+1)++l.drop i=l.take i++e::l.drop i:=by
  rw [zk ud,List.take_take,Nat.min_self,List.append_assoc];rfl
 rw [AL] at Gv;have BG:(l.take i++e::l.drop i).length=l.length+1:=by rw [List.length_append,List.length_cons,Ci,BJ];omega
 have Af:=Gv.own zN hB;rw [BG] at Af;have hg:w.grownBy w3 (some g):=⟨CA.os.trans (A9.os.trans Aa.os),CA.tape.trans (A9.tape.trans Aa.tape),CA.output.trans (A9.output.trans Aa.output),by rw [CA.size];show ↑w<=w2.heap.size;rw [A9.size,FZ];omega,fun j hj Aj=> by
  rw [CA.block j ud];exact (A9.block j ud).trans (Aa.block j hj)⟩
 have HR:=zh (zn Af hg);have Dw:IntKind.i64.wrap ((l.length:Int)+1)=(l.length:Int)+1:=zw _ ud;have LB:IntKind.i64.wrap ((l.length:Int)+1 - (i:Int))=((l.length+1 - i:Nat):Int):=by rw [zw _ ud];omega
 have BB:IntKind.i64.wrap ((i:Int)+1)=(i:Int)+1:=zw _ ud;have Jn:¬(i:Int)=(l.length:Int):=ud;have BH:(cap:Int) < (l.length:Int)+1:=ud;have PM:¬cap1=i+1:=ud;have aD:¬cap1=i:=ud;have NM:¬cap=i:=ud;have PN:(0:Int)<=(i:Int)+1:=ud;have IF:i<=l.length:=ud;have QW:(i:Int)<=(l.length:Int)+1:=ud;have cj:i<=l.length+1:=ud;have Ty:i+(l.length+1 - i)=l.length+1:=ud;have aA:l.length+1<=cap1:=ud;have aB:i<=cap:=ud;rw [BJ] at KV;rw [Ty] at BK;generalize hn:l.length=n at *;go_in
 go_wp2_with (first
  | (at_builtin;refine za8 rfl _ _ _ _ rfl (BK _) ?_)
  | (at_builtin;refine zaE rfl _ _ _ _ rfl (B7 _ _ _) ?_))
 go_region_law (refine zaY rfl _ _ 137 137 rfl _ _ uO uX (KV _ _ _) ?_)
 go_wp2;go_ret;exact ⟨_,rfl,HR.out.1,HR.out.2⟩
theorem zkD (h:zK zaW 4 113 w B v l) (i:Nat) (hi:i < l.length) (hl:l.length<=1000):
 χ 205 #[v,↑i,ι ((i+1:Nat))] w fun r w'=> ∃v',r=ρ v'/\zK zaW 4 113 w' B v' (l.take i++l.drop (i+1))/\w.grownBy w' v.ownBlock:=by
 obtain ⟨i0,AD,AG,Ai,Ax⟩:=zW zgi;rcases h.cases with ⟨rfl,rfl⟩ | ⟨g,cap,rfl,Bc,BF,hR⟩
 ·simp at hi
 have BO:=hR.le;have Ce:cap<=9223372036854775807:=by have:=hR.cm;unfold maxLen at this;omega
 have BJ:(l.drop (i+1)).length=l.length - (i+1):=List.length_drop;have Ci:(l.take i).length=i:=by rw [List.length_take];omega
 have E6:=hR.row zN;have EG:zM zaW 4 w (some ⟨g,(i+1) * 4,none⟩) (l.length - (i+1)) (l.drop (i+1)):=by simpa using E6.drop (i+1)
 obtain ⟨A,hA,Dq⟩:∃A:Addr,(if cap=i+1 then some (↑g:Addr) else some ⟨g,(i+1) * 4,none⟩)=some A/\∀j u,(zB zaW (l.drop (i+1)))[j]? =some u->w.drew (A.add j)=some u:=by
  by_cases h:cap=i+1
  ·refine ⟨↑g,by simp [h],fun j u hu=> ?_⟩
   have:l.drop (i+1)= []:=List.eq_nil_of_length_eq_zero ud;rw [this] at hu;simp [zB] at hu
  exact ⟨⟨g,(i+1) * 4,none⟩,by simp [h],zM.cells zN uf (w:=w.drew) EG⟩
 obtain ⟨w1,BK,C9,BC⟩:=zbn zN zbs (t:=137) Tryz.underlying137 AD Ai (w:=w.drew) (hR.heap rfl) i ud (l.drop (i+1)) A Dq uP;have Bu:(l.take i++l.drop (i+1)).length=l.length - 1:=by rw [List.length_append,Ci,BJ];omega
 obtain ⟨w2,B7,B0,A9⟩:=zbe uf (t:=137) (z:= .agg #[τ 0,ν 0,υ 0,ν 0]) Tryz.underlying137 (fun w=> by simp [zeroValue,typeInfo,AD,AG]) rfl (fun u hu=> by simp [Value.cells] at hu;rcases hu with rfl | rfl | rfl | rfl <;> rfl) C9 (l.length - 1) 1 ud ud ((l.length - 1) * 4) (.inr rfl)
 have Af:=B0.own zN Bc;rw [Bu] at Af;have hg:w.grownBy w2 (some g):=⟨(A9.os.trans BC.os),(A9.tape.trans BC.tape),(A9.output.trans BC.output),by rw [A9.size,BC.size];exact zl,fun j hj Aj=> by
  have IC:j≠g:=fun e=> Aj uJ;rw [A9.block j IC,BC.block j IC];rfl⟩
 have HR:=zh (zn Af hg);rw [BJ,show i+(l.length - (i+1))=l.length - 1 by omega] at BK
 have CT:l.length - 1+1=l.length:=ud;have Fs:l.length - (l.length - 1)=1:=ud;have Jn:¬cap=l.length - 1:=ud;have BH:¬((i:Int)=((i+1:Nat):Int)):=ud;have PM:i<=cap:=ud;have NM:i+1<=l.length:=ud;have PN:l.length<=cap:=ud;have IF:l.length - 1<=l.length:=ud;generalize hj:i+1=j at *;have Fr:i<=j:=ud;generalize hn:l.length=n at *;generalize hq:n - 1=q at *;go_in;go_wp2;have Ii:∀c,(Builtin.append_ #[137,137] 137 #[σ (some ↑g) i cap,σ (some A) (n - j) c]).run prog w.drew= .ok (σ (some ↑g) q cap) w1:=fun c=> BK _ c
 go_region_law (first | (refine zL (o:=⟨some 26,_,_,_,_,_⟩) rfl _ _ 137 137 rfl (σ (some ↑g) i cap) (σ (some A) (n - j) (cap - j)) ut ut (Ii _) ?_))
 go_wp2;go_ret;exact ⟨_,rfl,HR.out.1,HR.out.2⟩
end
end Go.Proofs.YtaoceecfjlkmdaaGreat
