/- Lemmas of the walks, merged and pressed by press.py. Conditions: those of each theorem. -/
import Derived.Test.YtfldlfladcfggaaGreatM9
set_option maxRecDepth 100000
set_option maxHeartbeats 64000000
set_option linter.all false
namespace Go.Proofs.YtfldlfladcfggaaGreat
section
open Go.RowKit Go.Shelf
def W8 (w:World) (g k:Nat) (o:PO) (dv mv:Value):World:=
 (((((((w.setCell ⟨g,k,none⟩ (.int .i64 o.k)).setCell ⟨g,k+1,none⟩ (.int .i64 o.v)).setCell ⟨g,k+2,none⟩ (.int .i64 o.i)).setCell ⟨g,k+3,none⟩ (.int .i64 o.b)).setCell ⟨g,k+4,none⟩ (.int .i64 o.n)).setCell ⟨g,k+5,none⟩ (.int .u64 o.pt)).setCell ⟨g,k+6,none⟩ dv).setCell ⟨g,k+7,none⟩ mv
theorem zrj (o:PO) (q:Value × Value):∀(l:List PO) (ps:List (Value × Value)) (i:Nat),ps.length=l.length→i < l.length→
 ((((((((z8 l ps).set (i * 8) (.int .i64 o.k)).set (i * 8+1) (.int .i64 o.v)).set (i * 8+2) (.int .i64 o.i)).set (i * 8+3) (.int .i64 o.b)).set (i * 8+4) (.int .i64 o.n)).set (i * 8+5) (.int .u64 o.pt)).set (i * 8+6) q.1).set (i * 8+7) q.2=z8 (l.set i o) (ps.set i q)
 | [],_,_,_,h=> by simp at h
 | _::_, [],_,h,_=> by simp at h
 | a::l,b::ps,0,_,_=> rfl
 | a ::l,b::ps,i+1,h,hi=> by
   have ih:=zrj o q l ps i (by simpa using h) (by simpa using hi)
   have hl:(zf4 a b.1 b.2).length=8:=rfl;have e:∀(xs:List Value) (k:Nat) (x:Value),(zf4 a b.1 b.2++xs).set ((i+1) * 8+k) x=zf4 a b.1 b.2++xs.set (i * 8+k) x:=fun xs k x=> by
     rw [List.set_append_right _ _ (by rw [hl];omega),hl,show (i+1) * 8+k - 8=i * 8+k by omega]
   have e0:=e (z8 l ps) 0;simp only [Nat.add_zero] at e0;rw [List.set_cons_succ,List.set_cons_succ,z8,z8,e0,e,e,e,e,e,e,e,ih]
theorem zsY {w:World} {B g cap n:Nat} {l:List PO} {ps:List (Value × Value)} (h:w.ownsRow B 28 8 (.slice (some ⟨g,0,none⟩) n cap) n (z8 l ps)) (hp:ps.length=l.length) (i:Nat) (hi:i < l.length) (o:PO) (q:Value × Value):
 (W8 w g (i * 8) o q.1 q.2).ownsRow B 28 8 (.slice (some ⟨g,0,none⟩) n cap) n (z8 (l.set i o) (ps.set i q)):=by
 have h1:=((((((((h.stored (i * 8) (.int .i64 o.k)).1.stored (i * 8+1) (.int .i64 o.v)).1.stored (i * 8+2) (.int .i64 o.i)).1.stored (i * 8+3) (.int .i64 o.b)).1.stored (i * 8+4) (.int .i64 o.n)).1.stored (i * 8+5) (.int .u64 o.pt)).1.stored (i * 8+6) q.1).1.stored (i * 8+7) q.2).1;rw [zrj o q l ps i hp hi] at h1;exact h1
theorem zr7 (w:World) (g k:Nat) (o:PO) (dv mv:Value):w.grownBy (W8 w g k o dv mv) (some g):=by
 have e:∀(w:World) (j:Nat) (x:Value),w.grownBy (w.setCell ⟨g,j,none⟩ x) (some g):=fun w j x=> ⟨rfl,rfl,rfl,by simp,fun i _ hi=> heap_setCell_other _ _ _ _ (fun e=> hi (by rw [e]))⟩
 exact (((((((e _ _ _).trans (e _ _ _)).trans (e _ _ _)).trans (e _ _ _)).trans (e _ _ _)).trans (e _ _ _)).trans (e _ _ _)).trans (e _ _ _)
def zsl (l:List PO) (i:Nat):List PO:=(List.range l.length).map fun k=> if k < i∨l.length≤k+i then l.getD (l.length - 1 - k) PO.zero else l.getD k PO.zero
theorem zq9 (l:List PO) (i:Nat):(zsl l i).length=l.length:=by simp [zsl]
theorem zq6 (l:List PO) (i k:Nat) (hk:k < l.length):(zsl l i)[k]? =some (if k < i∨l.length≤k+i then l.getD (l.length - 1 - k) PO.zero else l.getD k PO.zero):=by
 unfold zsl;rw [List.getElem?_map,List.getElem?_range hk]
 rfl
theorem zsy (l:List PO):zsl l 0=l:=by
 apply List.ext_getElem?
 intro k
 by_cases hk:k < l.length
 ·rw [zq6 l 0 k hk,if_neg (by omega)]
  simp [List.getD,hk]
 ·rw [List.getElem?_eq_none (by rw [zq9];omega),List.getElem?_eq_none (by omega)]
theorem zsO (l:List PO) (i:Nat) (h:l.length≤2 * i+1):zsl l i=l.reverse:=by
 apply List.ext_getElem?
 intro k
 by_cases hk:k < l.length
 ·rw [zq6 l i k hk,List.getElem?_reverse hk];have e:(if k < i∨l.length≤k+i then l.getD (l.length - 1 - k) PO.zero else l.getD k PO.zero)=l.getD (l.length - 1 - k) PO.zero:=by
   split
   ·rfl
   ·congr 1;omega
  rw [e,List.getD,ze (show l.length - 1 - k < l.length by omega)]
  rfl
 ·rw [List.getElem?_eq_none (by rw [zq9];omega),List.getElem?_eq_none (by rw [List.length_reverse];omega)]
theorem zsx (l:List PO) (i j:Nat) (hj:i+j+1=l.length) (Fr:i < j) (oi oj:PO) (h1:(zsl l i)[i]? =some oi) (h2:(zsl l i)[j]? =some oj):((zsl l i).set i oj).set j oi=zsl l (i+1):=by
 rw [zq6 l i i (by omega),if_neg (by omega),Option.some.injEq] at h1
 rw [zq6 l i j (by omega),if_neg (by omega),Option.some.injEq] at h2
 subst h1 h2
 apply List.ext_getElem?
 intro k
 by_cases hk:k < l.length
 ·rw [zq6 l (i+1) k hk,List.getElem?_set,List.length_set,zq9,List.getElem?_set,zq9]
  by_cases e1:j=k
  ·subst e1;rw [if_pos rfl,if_pos hk,if_pos (by omega),show l.length - 1 - j=i by omega]
  ·rw [if_neg e1]
   by_cases e2:i=k
   ·subst e2;rw [if_pos rfl,if_pos hk,if_pos (by omega),show l.length - 1 - i=j by omega]
   ·rw [if_neg e2,zq6 l i k hk]
    by_cases e3:k < i∨l.length≤k+i
    ·rw [if_pos e3,if_pos (by omega)]
    ·rw [if_neg e3,if_neg (by omega)]
 ·rw [List.getElem?_eq_none (by simp [zq9];omega),List.getElem?_eq_none (by rw [zq9];omega)]
def zrz (w:World) (g k:Nat) (o:PO) (dv mv:Value):Prop:=
 w.cell? ⟨g,k,none⟩=some (.int .i64 o.k)∧w.cell? ⟨g,k+1,none⟩=some (.int .i64 o.v)∧w.cell? ⟨g,k+2,none⟩=some (.int .i64 o.i)∧w.cell? ⟨g,k+3,none⟩=some (.int .i64 o.b)∧
 w.cell? ⟨g,k+4,none⟩=some (.int .i64 o.n)∧w.cell? ⟨g,k+5,none⟩=some (.int .u64 o.pt)∧w.cell? ⟨g,k+6,none⟩=some dv∧w.cell? ⟨g,k+7,none⟩=some mv
theorem z7.swap {w:World} {B g n cap:Nat} {l:List PO} (h:z7 w B (.slice (some ⟨g,0,none⟩) n cap) l) (hB:B≤w.heap.size) {i j:Nat} {oi oj:PO} (hi:l[i]? =some oi) (hj:l[j]? =some oj):
 ∃ dai dci mai mci daj dcj maj mcj,zrz w g (i * 8) oi (.slice dai oi.d.length dci) (.slice mai oi.m.length mci)∧zrz w g (j * 8) oj (.slice daj oj.d.length dcj) (.slice maj oj.m.length mcj)∧
   (∀k,w.frozen? ⟨g,k,none⟩=false)∧
   z7 (W8 (W8 w g (i * 8) oj (.slice daj oj.d.length dcj) (.slice maj oj.m.length mcj)) g (j * 8) oi (.slice dai oi.d.length dci) (.slice mai oi.m.length mci)) B (.slice (some ⟨g,0,none⟩) n cap) ((l.set i oj).set j oi)∧
   w.grownBy (W8 (W8 w g (i * 8) oj (.slice daj oj.d.length dcj) (.slice maj oj.m.length mcj)) g (j * 8) oi (.slice dai oi.d.length dci) (.slice mai oi.m.length mci)) (some g):=by
 obtain ⟨ps,h1,h2,h3⟩:=h;have De:=(zi hi).1;have FT:=(zi hj).1;have Vt:n=l.length:=by
  rcases h2.2 with ⟨e,_⟩ | ⟨g',cap',cur,e,_⟩
  ·cases e
  ·cases e;rfl
 subst Vt;obtain ⟨pi,YU⟩:∃p,ps[i]? =some p:=⟨_,ze (by omega)⟩
 obtain ⟨pj,aL⟩:∃p,ps[j]? =some p:=⟨_,ze (by omega)⟩
 have fi:=h3 i oi pi hi YU;have fj:=h3 j oj pj hj aL;obtain ⟨dai,dci,mai,mci,e1,e2,-,-⟩:=fi.val;obtain ⟨daj,dcj,maj,mcj,e3,e4,-,-⟩:=fj.val;have Bn:∀(i:Nat) (o:PO) (p:Value × Value),l[i]? =some o→ps[i]? =some p→zrz w g (i * 8) o p.1 p.2:=fun i o p ho hp=> by
  have hc:∀j x,(zf4 o p.1 p.2)[j]? =some x→w.cell? ⟨g,i * 8+j,none⟩=some x:=fun j x hx=> by
   have:=h2.cells (g:=g) rfl (i * 8+j) x (zrc l ps i o p j x ho hp hx)
   rwa [zdt,Nat.zero_add] at this
  exact ⟨hc 0 _ rfl,hc 1 _ rfl,hc 2 _ rfl,hc 3 _ rfl,hc 4 _ rfl,hc 5 _ rfl,hc 6 _ rfl,hc 7 _ rfl⟩
 have ci:=Bn i oi pi hi YU;have cj:=Bn j oj pj hj aL;have o1:=zsY h2 h1 i De oj pj;have o2:=zsY o1 (by simp [h1]) j (by simpa using FT) oi pi
 have g1:=(zr7 w g (i * 8) oj pj.1 pj.2).trans (zr7 _ g (j * 8) oi pi.1 pi.2);rw [e1,e2] at ci;rw [e3,e4] at cj;have Mw:∀k,w.frozen? ⟨g,k,none⟩=false:=fun k=> by
  rcases h2.2 with ⟨e,_⟩ | ⟨g',cap',cur,e,_,hg,_⟩
  ·cases e
  ·cases e
   exact frozen_of_row _ _ _ _ _ hg
 refine ⟨dai,dci,mai,mci,daj,dcj,maj,mcj,ci,cj,Mw, ?_, ?_⟩
 ·rw [← e1,← e2,← e3,← e4];refine ⟨(ps.set i pj).set j pi,by simp [h1], ?_,fun k o p ho hp=> ?_⟩
  ·rw [List.length_set,List.length_set];exact o2
  ·have IB:w.grownBy _ (Value.slice (some ⟨g,0,none⟩) l.length cap).ownBlock:=g1;rw [List.getElem?_set,List.length_set] at ho hp
   by_cases ek:j=k
   ·rw [if_pos ek,if_pos FT] at ho;rw [if_pos ek,if_pos (by omega)] at hp
    cases ho;cases hp
    exact fi.grown h2 IB hB
   ·rw [if_neg ek,List.getElem?_set] at ho hp
    by_cases ei:i=k
    ·rw [if_pos ei,if_pos De] at ho;rw [if_pos ei,if_pos (by omega)] at hp
     cases ho;cases hp
     exact fj.grown h2 IB hB
    ·rw [if_neg ei] at ho hp;exact (h3 k o p ho hp).grown h2 IB hB
 ·rw [← e1,← e2,← e3,← e4];exact g1
theorem z7.drewN {w:World} {B:Nat} {v:Value} {l:List PO} (h:z7 w B v l) (k:Nat):z7 (w.drewN k) B v l:=by
 obtain ⟨ps,h1,h2,h3⟩:=h;refine ⟨ps,h1,h2,fun i o p ho hp=> ?_⟩;rcases h3 i o p ho hp with hh | ⟨w0,a,b,c⟩
 ·exact .inl hh
 ·exact .inr ⟨w0,a,below_drewN b k,c⟩
theorem z7.drew {w:World} {B:Nat} {v:Value} {l:List PO} (h:z7 w B v l):z7 w.drew B v l:=h.drewN 1
theorem zsf (w:World) (row:Option Nat):w.grownBy w.drew row:=⟨rfl,rfl,rfl,zl,fun _ _ _=> rfl⟩
theorem zrr (v:Value) (B:Nat) (l:List PO) (w:World) (h:z7 w B v l) (hn:l.length≤1000000) (hB:B≤w.heap.size):
 Calls Tryz.prog 19 #[v] w fun e w'=> e= .returned (.tuple #[])∧z7 w' B v l.reverse∧w.grownBy w' v.ownBlock:=by
 obtain ⟨a,cap,rfl,Ig,-⟩:=h.ops;have VF:l= []∨∃g,a=some ⟨g,0,none⟩:=by
  obtain ⟨ps,h1,h2,h3⟩:=h;rcases h2.2 with ⟨e,h0⟩ | ⟨g',cap',cur,e,_⟩
  ·exact .inl (List.eq_nil_of_length_eq_zero h0)
  ·cases e;exact .inr ⟨g',rfl⟩
 rcases VF with rfl | ⟨g,rfl⟩
 ·have H:=zh h;clear h Ig;go_enter Tryz.func19,Tryz.ntmps19;go_wp2_with fail
  go_loopw [2,3] (fun u2 u3 wr=> u2= .int .i64 0∧u3= .int .i64 (-1)∧wr=w) (fun _ _ _=> 0)
  case atStart=> exact ⟨rfl,by go_num,rfl⟩
  case round=>
   obtain ⟨rfl,rfl,rfl⟩:=hrel;go_wp2_with fail;go_end0;exact ⟨rfl,H.out,World.grownBy.refl _ _⟩
 ·have H:=zh h;clear h Ig;have Gb:IntKind.i64.wrap ((l.length:Int) - 1)=(l.length:Int) - 1:=zw _ (by omega)
  go_enter Tryz.func19,Tryz.ntmps19;go_wp2_with fail
  go_loopw [2,3] (fun u2 u3 wr=> ∃i:Nat,2 * i≤l.length+1∧u2= .int .i64 i∧u3= .int .i64 ((l.length:Int) - 1 - (i:Int))∧z7 wr B (.slice (some ⟨g,0,none⟩) l.length cap) (zsl l i)∧w.grownBy wr (some g)) (fun u2 _ _=> l.length - (intOf u2).toNat)
  case atStart=> exact ⟨0,by omega,rfl,by simp,by rw [zsy];exact H.out,World.grownBy.refl _ _⟩
  case round=>
   obtain ⟨i,hi,rfl,rfl,Af,hg⟩:=hrel
   by_cases hlt:2 * i+1 < l.length
   ·obtain ⟨j,hj⟩:∃j,i+j+1=l.length:=⟨l.length - 1 - i,by omega⟩
    have ej:(l.length:Int) - 1 - (i:Int)=(j:Int):=by omega
    rw [ej];obtain ⟨oi,av⟩:∃o,(zsl l i)[i]? =some o:=⟨_,zq6 l i i (by omega)⟩
    obtain ⟨oj,Vv⟩:∃o,(zsl l i)[j]? =some o:=⟨_,zq6 l i j (by omega)⟩
    have DU:=zsx l i j hj (by omega) oi oj av Vv
    have MA:(0:Int)≤(i:Int):=by omega
    have EB:(i:Int) < (l.length:Int):=by omega
    have EC:(0:Int)≤(j:Int):=by omega
    have MB:(j:Int) < (l.length:Int):=by omega
    have b8:(i:Int) < (j:Int):=by omega
    have fd:=zh Af;obtain ⟨dai,dci,mai,mci,daj,dcj,maj,mcj,ci,cj,Mw,S2,XA⟩:=Af.swap (zs hB hg.size) av Vv;obtain ⟨c0,c1,c2,c3,c4,c5,c6,c7⟩:=ci;obtain ⟨d0,d1,d2,d3,d4,d5,d6,d7⟩:=cj;rw [DU] at S2;have S2:=S2.drew;have XA:=hg.trans (XA.trans (zsf _ _));unfold W8 at S2 XA;have eK:=zh S2;have eD:=zh XA;clear Af S2 XA DU av Vv;go_wp2_with fail
    go_region
    all_goals
     go_wp2_with fail;exact ⟨⟨i+1,by omega,by go_num,by congr 1;omega,eK.out,eD.out⟩,by simp [intOf];omega⟩
   ·have C2:=zsO l i (by omega)
    rw [C2] at Af;have JH:¬((i:Int) < (l.length:Int) - 1 - (i:Int)):=by omega
    go_wp2_with fail;go_end0;exact ⟨rfl,Af,hg⟩
end
end Go.Proofs.YtfldlfladcfggaaGreat
