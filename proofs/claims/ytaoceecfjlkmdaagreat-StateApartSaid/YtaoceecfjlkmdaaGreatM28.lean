/- Lemmas of the walks, merged and pressed by press.py. Conditions: those of each theorem. -/
import Derived.Test.YtaoceecfjlkmdaaGreatM27
import Derived.Test.YtaoceecfjlkmdaaGreatM24
import Derived.Test.YtaoceecfjlkmdaaGreatM25
import Derived.Test.YtaoceecfjlkmdaaGreatM18
set_option maxRecDepth 100000
set_option maxHeartbeats 64000000
set_option linter.all false
namespace Go.Proofs.YtaoceecfjlkmdaaGreat
open Tryz
variable {h:Ch} {xs0:List Nat} {B base c g i k n s s0:Nat} {Q:Nat→Prop} {v:Value} {w w' w0:World}
section
open Go.RowKit
theorem zpv (hn:xs0.length=n) (BH:n<=1000000) (N:Nat):∀(a b lim:Nat) (w:World),zar g w0 xs0 w->b - a < N->a<=b->b<=n->lim<=64->
 χ 121 #[σ (some ↑g) n c,↑a,↑b,↑lim] w fun e w'=> e=ρ (.tuple #[])/\zar g w0 xs0 w':=by
 induction N with
 | zero=> intro a b lim w _ h;omega
 | succ N ih=>
   intro a b lim w h hN Dh hb B5;have IH:=zh ih;have H:=zh h;have HB:=zh (zn hn (zn BH hN));have HR:=zh (zn Dh (zn hb B5));clear h hn BH hN Dh hb B5 ih;go_in;go_wp2_with fail
   go_loopw [1,2,3,8,9,10,11,12,13,14,15,16,17,18] (fun u1 u2 u3 u8 u9 _ _ _ _ _ _ _ _ _ wr=> ∃(i j l:Nat) (wb wp:Bool),(i<=j/\j<=n/\l<=64/\j - i < N+1)/\u1= ι i/\u2= ι j/\u3= ι l/\u8= .bool wb/\u9= .bool wp/\zar g w0 xs0 wr) (fun u1 u2 _ _ _ _ _ _ _ _ _ _ _ _ _=> (intOf u2).toNat - (intOf u1).toNat)
   case atStart=> exact ⟨a,b,lim,true,true,⟨HR.out.1,HR.out.2.1,HR.out.2.2,HB.out.2.2⟩,rfl,rfl,rfl,rfl,rfl,H.out⟩
   case round=>
    clear HR H;obtain ⟨i,j,l,wb,wp,hR,rfl,rfl,rfl,rfl,rfl,hS⟩:=hrel;have HR:=zh hR;have HS:=zh hS;clear hS hR;obtain ⟨d,hd⟩:∃d,j=i+d:=⟨j - i,by have:=HR.out;omega⟩
    have sd:IntKind.i64.wrap ((j:Int) - (i:Int))=(d:Int):=by rw [zw _ uD];omega
    have HD:=zh hd;clear hd
    by_cases X0:d<=12
    ·have SI:(d:Int)<=12:=ud;have HC:=zh (zgV (c:=c) HS.out HB.out.1 HB.out.2.1 i j HR.out.1 HR.out.2.1);go_wp2_with fail;refine HC.out.mono ?_;rintro e w2 ⟨rfl,DC⟩;have Bl:=zh DC;clear DC;go_wp2_with fail;refine bodyPost_ret (results_none rfl _ _ _) rfl ?_;exact ⟨rfl,Bl.out⟩
    have SI:¬(d:Int)<=12:=ud
    by_cases Dm:l=0
    ·have PE:(l:Int)=0:=ud;have HC:=zh (zhT (c:=c) HS.out HB.out.1 HB.out.2.1 i j (by have:=HD.out;omega) HR.out.2.1)
     clear Dm;go_wp2_with fail;refine HC.out.mono ?_;rintro e w2 ⟨rfl,DC⟩;have Bl:=zh DC;clear DC;go_wp2_with fail;refine bodyPost_ret (results_none rfl _ _ _) rfl ?_;exact ⟨rfl,Bl.out⟩
    have PE:¬(l:Int)=0:=ud;have hl0b:((l:Int)==0)=false:=by simpa using PE
    have Hi:=zh (show 12 < d/\0 < l by omega)
    have sl:IntKind.i64.wrap ((l:Int) - 1)=((l - 1:Nat):Int):=by rw [zw _ (by have:=HR.out;omega)];have:=Hi.out;omega
    clear Dm X0;rename World=> wo
    go_upto_if 35 with fail
    go_cut [3] from 35 to 41 (fun u3 wx=> ∃l:Nat,l<=64/\u3= ι l/\zar g w0 xs0 wx)
    case first=>
     cases wb with
     | true=>
       go_wp2_with fail
       go_meet
       case rel=> exact ⟨l,HR.out.2.2.1,rfl,HS.out⟩
     | false=>
       have HC:=zh (zd3 (c:=c) HS.out HB.out.1 HB.out.2.1 i j uaq HR.out.2.1);go_wp2_with fail;refine HC.out.mono ?_;rintro e w2 ⟨rfl,DC⟩;have Bl:=zh DC;clear DC;go_wp2_with fail
       go_meet
       case rel=> exact ⟨l - 1,by have:=HR.out;omega,rfl,Bl.out⟩
    clear sl PE hl0b;obtain ⟨l',NG,rfl,QJ⟩:=hcut;have M8:=zh NG;have Dx:=zh QJ;clear NG QJ;have HC:=zh (zfc (c:=c) Dx.out HB.out.1 HB.out.2.1 i j uaq HR.out.2.1);go_wp2_with fail;refine HC.out.mono ?_;rintro e w2 ⟨x,y,rfl,BB,Dw,DC⟩;have Bl:=zh DC;have HX:=zh (zn BB Dw);clear DC BB Dw
    go_upto_if 50 with fail
    go_cut [11,12] from 42 to 60 (fun u11 u12 wx=> ∃x y:Nat,(i<=x/\x < j)/\u11= ι x/\u12= ι y/\zar g w0 xs0 wx)
    case first=>
     by_cases hy:y=2
     ·have N9:(y:Int)=2:=ud;obtain ⟨t,ht⟩:∃t,x=i+t:=⟨x - i,by have:=HX.out;omega⟩
      obtain ⟨j1,EB⟩:∃j1,j1+1=j:=⟨j - 1,by have:=HX.out;omega⟩
      obtain ⟨x2,Dw⟩:∃x2,x2+t=j1:=⟨j1 - t,by have:=HX.out;omega⟩
      have t1:IntKind.i64.wrap ((x:Int) - (i:Int))=(t:Int):=by rw [zw _ uS];omega
      have t2:IntKind.i64.wrap ((j:Int) - 1)=(j1:Int):=by rw [zw _ uS];omega
      have t3:IntKind.i64.wrap ((j1:Int) - (t:Int))=(x2:Int):=by rw [zw _ uS];omega
      have AS:=zh (show i<=x2/\x2 < j by have:=HX.out;omega)
      have JS:=zh (zjt (c:=c) Bl.out HB.out.1 HB.out.2.1 i j (by have:=HX.out;omega) HR.out.2.1)
      clear hy ht EB Dw;go_wp2_with fail;refine JS.out.mono ?_;rintro e w3 ⟨rfl,CJ⟩;have Bm:=zh CJ;clear CJ;go_wp2_with fail
      go_meet
      case rel=> exact ⟨x2,1,AS.out,rfl,rfl,Bm.out⟩
     have N9:¬(y:Int)=2:=ud;have qt:((y:Int)==2)=false:=by simpa using N9
     go_wp2_with fail
     go_meet
     case rel=> exact ⟨x,y,HX.out,rfl,rfl,Bl.out⟩
    clear HX Bl;obtain ⟨x,y,hx,rfl,rfl,CJ⟩:=hcut;have HX:=zh hx;have Bm:=zh CJ;clear hx CJ;rename World=> w3;go_upto_region 15 with fail
    go_cut [68] from 61 to 68 (fun u68 wx=> ∃bl:Bool,u68= .bool bl/\wx=w3)
    case first=>
     by_cases hy:y=1
     ·have N9:(y:Int)=1:=ud;have qt:((y:Int)==1)=true:=by simpa using N9
      clear hy
      cases wb <;> cases wp <;> (go_wp2_with fail;go_meet;case rel=> exact ⟨_,rfl,rfl⟩)
     have N9:¬(y:Int)=1:=ud;have qt:((y:Int)==1)=false:=by simpa using N9
     clear hy
     cases wb <;> cases wp <;> (go_wp2_with fail;go_meet;case rel=> exact ⟨_,rfl,rfl⟩)
    obtain ⟨bl,rfl,rfl⟩:=hcut;rename World=> w4
    go_upto_if 68 with fail
    go_cut [] from 68 to 72 (fun wx=> zar g w0 xs0 wx)
    case first=>
     cases bl with
     | false=>
       go_wp2_with fail
       go_meet
       case rel=> exact Bm.out
     | true=>
       have JS:=zh (zfU (c:=c) Bm.out HB.out.1 HB.out.2.1 i j uaq HR.out.2.1);go_wp2_with fail;refine JS.out.mono ?_;rintro e w5 ⟨⟨r,rfl⟩,Bg⟩;have B9:=zh Bg;clear Bg
       cases r with
       | true=>
         go_wp2_with fail;refine bodyPost_ret (results_none rfl _ _ _) rfl ?_;exact ⟨rfl,B9.out⟩
       | false=>
         go_wp2_with fail
         go_meet
         case rel=> exact B9.out
    clear Bm;have Bm:=zh hcut;clear hcut;rename World=> w5;go_upto_region 17 with fail
    go_cut [87] from 73 to 87 (fun u87 wx=> ∃bl:Bool,u87= .bool bl/\zar g w0 xs0 wx)
    case first=>
     by_cases AD:0 < i
     ·obtain ⟨m,hm⟩:∃m,m+1=i:=⟨i - 1,ud⟩;obtain ⟨v,hv,-⟩:=Bm.out.at m uD;obtain ⟨u,hu,-⟩:=Bm.out.at x (by have:=HR.out;have:=HX.out;have:=HB.out;omega)
      have sm:IntKind.i64.wrap ((i:Int) - 1)=(m:Int):=by rw [zw _ uD];omega
      have d0:(0:Int)<=(m:Int):=ud;have d1:(m:Int) < (n:Int):=uD;have d2:(0:Int)<=(x:Int):=ud;have d3:(x:Int) < (n:Int):=by have:=HR.out;have:=HX.out;have:=HB.out;omega
      have d4:(0:Int) < (i:Int):=ud;clear hm
      go_quiet ((go_at_call 172;exact Calls.quiet_of_same (zaB _ _ _)))
      have Az:=zh (Bm.out.drewN nq);go_wp2_with fail
      go_meet
      case rel=> exact ⟨_,rfl,Az.out⟩
     obtain rfl:i=0:=ud
     go_quiet (fail)
     have Az:=zh (Bm.out.drewN nq);go_wp2_with fail
     go_meet
     case rel=> exact ⟨_,rfl,Az.out⟩
    obtain ⟨bl,rfl,BS⟩:=hcut;have Az:=zh BS;clear BS Bm;have M4:=zh (show i+1 < j by have:=HD.out;have:=Hi.out;omega)
    cases bl with
    | true=>
      have JS:=zh (zdR (c:=c) Az.out HB.out.1 HB.out.2.1 i j x M4.out HR.out.2.1 HX.out.1 HX.out.2);go_wp2_with fail;refine JS.out.mono ?_;rintro e w6 ⟨⟨m,rfl,CT,Fs⟩,Ca⟩;have Dt:=zh Ca;have HM:=zh (zn CT Fs);clear Ca CT Fs;go_wp2_with fail
      go_roundw
      case rel=> exact ⟨m,j,l',wb,wp,⟨HM.out.2,HR.out.2.1,M8.out,by have:=HR.out;have:=HM.out;omega⟩,rfl,rfl,rfl,rfl,rfl,Dt.out⟩
      case measure=> have:=HM.out;simp [intOf];omega
    | false=>
      have JS:=zh (zg3 (c:=c) Az.out HB.out.1 HB.out.2.1 i j x M4.out HR.out.2.1 HX.out.1 HX.out.2);go_wp2_with fail;refine JS.out.mono ?_;rintro e w6 ⟨⟨m,r,rfl,CT,Fs⟩,Ca⟩;have Dt:=zh Ca;obtain ⟨lL,ak⟩:∃lL,m=i+lL:=⟨m - i,ud⟩;obtain ⟨lR,al⟩:∃lR,j=m+lR:=⟨j - m,ud⟩;have t1:IntKind.i64.wrap ((m:Int) - (i:Int))=(lL:Int):=by rw [zw _ uD];omega
      have t2:IntKind.i64.wrap ((j:Int) - (m:Int))=(lR:Int):=by rw [zw _ uD];omega
      have t3:IntKind.i64.wrap ((m:Int)+1)=((m+1:Nat):Int):=by rw [zw _ uD];omega
      have d0:(0:Int)<=(d:Int):=ud;obtain ⟨q,hq⟩:∃q,q=d / 8:=⟨_,rfl⟩;have t4:(d:Int) / 8=(q:Int):=ud;have t5:IntKind.i64.wrap (q:Int)=(q:Int):=zw _ (by have:=HR.out;have:=HB.out;have:=HD.out;omega)
      have HM:=zh (zn CT Fs);clear Ca CT Fs ak al hq;obtain ⟨m1,CT⟩:∃m1,m1=m+1:=⟨_,rfl⟩;rw [<- CT] at t3;have Eh:=zh CT;clear CT
      by_cases NJ:lL < lR
      ·have YB:(lL:Int) < (lR:Int):=ud;have Oe:=zh (IH.out i m l' w6 Dt.out (by have:=HR.out;have:=HM.out;omega) HM.out.1 (by have:=HR.out;have:=HM.out;omega) M8.out)
       clear NJ;go_wp2_with fail;refine Oe.out.mono ?_;rintro e w7 ⟨rfl,Hs⟩;have G1:=zh Hs;clear Hs;go_wp2_with fail
       go_roundw
       case rel=> exact ⟨m1,j,l',_,r,⟨by have:=HM.out;have:=Eh.out;omega,HR.out.2.1,M8.out,by have:=HR.out;have:=HM.out;have:=Eh.out;omega⟩,rfl,rfl,rfl,rfl,rfl,G1.out⟩
       case measure=> have:=HM.out;have:=Eh.out;simp [intOf];omega
      have YB:¬(lL:Int) < (lR:Int):=ud;have Oe:=zh (IH.out m1 j l' w6 Dt.out (by have:=HR.out;have:=HM.out;have:=Eh.out;omega) (by have:=HM.out;have:=Eh.out;omega) HR.out.2.1 M8.out)
      clear NJ;go_wp2_with fail;refine Oe.out.mono ?_;rintro e w7 ⟨rfl,Hs⟩;have G1:=zh Hs;clear Hs;go_wp2_with fail
      go_roundw
      case rel=> exact ⟨i,m,l',_,r,⟨HM.out.1,by have:=HR.out;have:=HM.out;omega,M8.out,by have:=HR.out;have:=HM.out;omega⟩,rfl,rfl,rfl,rfl,rfl,G1.out⟩
      case measure=> have:=HM.out;simp [intOf];omega
theorem zot {xs:List Nat} (h:zep w g xs) (hn:xs.length=n) (BH:n<=1000000):
 χ 75 #[σ (some ↑g) n c] w fun e w'=> e=ρ (.tuple #[])/\zar g w xs w':=by
 have HL:=zh (ze8 n BH w);have hk:=Lib.bitLen_le n 64 ud ud;have HC:=zh (zpv (g:=g) (c:=c) (w0:=w) hn BH (n+1) 0 n (Lib.bitLen n) w h.st ud ud ud hk);have s0:IntKind.u64.wrap (n:Int)=(n:Int):=by rw [IntKind.wrap_u64];omega
 go_in;go_wp2_with fail;refine HL.out.mono ?_;rintro e w' ⟨rfl,rfl⟩;go_wp2_with fail;refine HC.out.mono ?_;rintro e w2 ⟨rfl,hS⟩;have HS:=zh hS;go_wp2;go_end0;exact ⟨rfl,HS.out⟩
theorem zeL:
 χ 166 #[σ none 0 0,ι 0,ι 0] w fun e w'=> e=ρ (.tuple #[])/\w'=w:=by
 go_in;go_wp2_with fail
 go_loopw [6] (fun u6 wr=> u6= ι 1/\wr=w) (fun u6 _=> 1 - (intOf u6).toNat)
 case atStart=> exact ⟨rfl,rfl⟩
 case round=>
  obtain ⟨rfl,rfl⟩:=hrel;go_wp2;go_end0;exact ⟨rfl,rfl⟩
theorem zlm (l:Nat):
 χ 121 #[σ none 0 0,ι 0,ι 0,↑l] w fun e w'=> e=ρ (.tuple #[])/\w'=w:=by
 go_in;go_wp2_with fail
 go_loopw [1,2,8,9,10,11,12,13,14,15,16,17,18] (fun u1 u2 _ _ _ _ _ _ _ _ _ _ _ wr=> u1= ι 0/\u2= ι 0/\wr=w) (fun _ _ _ _ _ _ _ _ _ _ _ _ _ _=> 0)
 case atStart=> exact ⟨rfl,rfl,rfl⟩
 case round=>
  obtain ⟨rfl,rfl,rfl⟩:=hrel;go_wp2_with fail;refine (zeL (w:=wr)).mono ?_;rintro e w2 ⟨rfl,rfl⟩;go_wp2_with fail;refine bodyPost_ret (results_none rfl _ _ _) rfl ?_;exact ⟨rfl,rfl⟩
theorem zjw:
 χ 75 #[σ none 0 0] w fun e w'=> e=ρ (.tuple #[])/\w'=w:=by
 have HL:=zh (ze8 0 ud w)
 go_in;go_wp2_with fail;refine HL.out.mono ?_;rintro e w' ⟨rfl,rfl⟩;go_wp2_with fail;refine (zlm (w:=w') _).mono ?_;rintro e w2 ⟨rfl,rfl⟩;go_wp2;go_end0;exact ⟨rfl,rfl⟩
end
section
open Go.RowKit
theorem zK.rw64 {xs:List Nat} (h:zK zb0 1 22 w B (σ (some ↑g) n c) xs):zep w g xs/\xs.length=n:=by
 rcases h.2 with ⟨h1,-⟩ | ⟨g',cap,cur,h1,-,h2,h3,h4,h5,h6⟩
 ·cases h1
 cases h1
 refine ⟨⟨cur,h2,fun i x hx=> ?_⟩,rfl⟩;have h7:(zB zb0 xs)[i]? =some (υ x):=by
  clear h6 h5 h4 h3 h2 h
  induction xs generalizing i with
  | nil=> simp at hx
  | cons y ys ih=>
    cases i with
    | zero=> simp only [List.getElem?_cons_zero,Option.some.injEq] at hx;subst hx;rfl
    | succ i=> exact ih i ubc
 have hi:i < xs.length:=(zi hx).1;have h8:(cur.toList.take (xs.length * 1))[i]? =some (υ x):=by rw [h6];exact h7
 rw [List.getElem?_take_of_lt ud] at h8
 simpa using h8
theorem zep.rowE {xs:List Nat} (h:zep w g xs):zM zb0 1 w (some ⟨g,0,none⟩) xs.length xs:=⟨rfl,fun i x hx=> ⟨g,0,rfl,fun j u hu=> by
 have hj:j=0:=by
  have:=(zi hu).1;rw [zah] at this
  omega
 subst hj;simp [zb0] at hu;subst hu
 simpa using (h.at hx).1⟩⟩
theorem zhD (w:World):χ 76 #[σ none 0 0] w fun e w'=> e=ρ (σ none 0 0)/\w'=w:=by
 go_in;go_wp2;go_ret;exact ⟨rfl,rfl⟩
def zhp (base:Nat) (w:World) (v:Value) (L:List Nat):Prop:=∃a c ps,v=σ a ps.length c/\ps.length<=L.length/\(∀x,x ∈ ps↔x ∈ L)/\zM zb0 1 w a ps.length ps/\∀b o,a=some (b o ())->base<=b
def ziu (B:Nat) (w:World) (v:Value) (L:List Nat):Prop:=χ 75 #[v] w fun e w1=> e=ρ (.tuple #[])/\θ B w w1/\χ 76 #[v] w1 fun e w2=> ∃u,e=ρ u/\zhp B w2 u L/\θ B w w2
theorem zdu (h:w.grownBy w' (some g)) (hg:B<=g) (hl:g < ↑w):θ B w w':=⟨h.os,h.tape,h.output,h.size,fun k hk=> h.block k ud (fun e=> by cases e;omega)⟩
theorem zki {L:List Nat} (h:zK zb0 1 22 w B v L) (hn:L.length<=1000000) (hB:B<=↑w):ziu B w v L:=by
 rcases h.cases with ⟨rfl,rfl⟩ | ⟨g,cap,rfl,Bc,BF,hR⟩
 ·refine zjw.mono ?_;rintro e w1 ⟨rfl,rfl⟩;refine ⟨rfl,Below.refl _ _,(zhD w1).mono ?_⟩;rintro e w2 ⟨rfl,rfl⟩;exact ⟨_,rfl,⟨none,0, [],rfl,zl,fun x=> Iff.rfl,zM.nil _ _ _ _,fun b o e=> by cases e⟩,Below.refl _ _⟩
 have h1:=h.rw64;refine (zot (c:=cap) h1.1 h1.2 hn).mono ?_;rintro e w1 ⟨rfl,ys,hp,hr,hg⟩;have Aa:=zdu hg Bc BF;refine ⟨rfl,Aa,(ziE (c:=cap) hr (hp.length_eq) hn hR.le).mono ?_⟩;rintro e w2 ⟨k,c',zs,rfl,⟨hk,G9⟩,hm,B7,Cy⟩;subst hk;refine ⟨_,rfl,⟨some ↑g,c',zs,rfl,G9,fun x=> by rw [hm,hp.mem_iff],B7.rowE,fun b o e=> by cases e;exact Bc⟩,Aa.trans (zdu Cy Bc (zt BF hg.size))⟩
section
variable {Q:Nat→Prop}
def ofB (l:List Bh) (v:Int):List Nat:=(l.filter fun b=> decide (v ∈ b.v.ms)).map (·.v.seq)
theorem zpp {c:Ct} (hc:zaV Q w h c) (v:Int):c.kept++ofB h.bl v=c.ofL v:=by
 unfold Ct.ofL ofB;rw [<- hc.booksE,List.filter_map,List.map_map]
 rfl
theorem zoi (l:List Bh) (v:Int)  {x:Bh} (hx:l[i]? =some x):ofB (l.take (i+1)) v=ofB (l.take i) v++if v ∈ x.v.ms then [x.v.seq] else []:=by
 unfold ofB;rw [List.take_add_one,hx,List.filter_append,List.map_append]
 by_cases h:v ∈ x.v.ms <;> simp [h]
theorem zgr {c:Ct} (hc:zaV Q w h c) (Du:c.kept.length<=32) (E8:c.books.length<=8) (FW:∀b ∈ c.books,b.ms.length<=8) (v:Int):
 χ 34 #[h.val c,↑v] w fun e w'=> ∃u,e=ρ u/\zhp ↑w w' u (c.ofL v)/\θ w w w':=by
 have Aa:θ w w (w.alloc (.cells (h.cells c) 54)):=zr.alloc zl _;have Ac:h.bl.length=c.books.length:=by rw [<- hc.booksE,List.length_map]
 have Ah:=hc.books.row.row;rw [Ac] at Ah;have HK:=zh (zd6 (c:=h.kc) (hc.kept.row.below Aa zl) ud);have H:=zh Ah;have Ak:=zh Aa;have HL:=zh Ac;have HE:=zh (zpp hc v);have Ok:=zh (zn Du E8);have AK:=zh (fun x hx=> zn (hc.books.sub x hx).row (show x.v.ms.length<=8 from FW x.v uK));have hX:=heap_alloc_new w (.cells (h.cells c) 54);obtain ⟨-,-,-,-,-,-,x6,x7,-⟩:=zaf hX;have HX:=zh hX;unfold Ch.val;unfold Ch.cells at *;generalize c.ofL v=L at *;generalize c.kept=kept at *;generalize E9:c.books.length=n at *;generalize h.ba=ba at *;generalize h.bl=bl at *;go_in;go_wp2_with fail;refine HK.out.mono ?_;rintro e w2 ⟨v2,rfl,ho,Ae⟩;generalize Ab:w.alloc (.cells _ 54)=w1 at *;have x6:=(zY (Ae.block ↑w (by rw [<- Ab];simp)) 6).trans x6
 have A5:=ho.base (show ↑w<=w1.heap.size by rw [<- Ab];simp)
 have Ap:=zh (Ak.out.trans (Ae.mono Ak.out.size));have HO:=zh A5;go_wp2_with fail
 go_loopw [5,14] (fun u5 u wr=> ∃i:Nat,i<=n/\u= ι i/\zK zb0 1 22 wr ↑w u5 (kept++ofB (bl.take i) v)/\θ w w wr) (fun _ u _=> n - (intOf u).toNat)
 case atStart=> exact ⟨0,ud,rfl,by rw [List.take_zero];unfold ofB;simpa using HO.out,Ap.out⟩
 case round=>
  obtain ⟨i,hi,rfl,ho,hb⟩:=hrel;have HB:=zh hb;have FX:n<=1000:=by have:=Ok.out;omega
  by_cases hlt:i < n
  ·have Bb:(i:Int) < (n:Int):=ud;have AD:(0:Int)<=(i:Int):=ud;obtain ⟨x,hx⟩:∃x,bl[i]? =some x:=⟨_,ze uj⟩;obtain ⟨b,o,rfl,hc⟩:=(H.out.below hb zl).2 i x hx;have c0:=hc 0 _ rfl;have c1:=hc 1 _ rfl;have c2:=hc 2 _ rfl;simp only [Nat.add_zero] at c0;have AP:=AK.out x (zm hx);have Aa:=hb.alloc hb.size (.cells #[↑x.v.id,υ x.v.seq,σ x.a x.v.ms.length x.c] 132);have Bo:=ho.alloc (.cells #[↑x.v.id,υ x.v.seq,σ x.a x.v.ms.length x.c] 132);have HC:=zh (zer (c:=x.c) (AP.1.below Aa zl) (by have:=AP.2;omega) v)
   have HS:=zh (zoi bl v hx);have EF:(kept++ofB (bl.take i) v).length<=100000000:=by
        have h1:=List.length_filter_le (fun b:Bh=> decide (v ∈ b.v.ms)) (bl.take i);have h2:(bl.take i).length<=i:=by rw [List.length_take];omega
        rw [List.length_append];unfold ofB;rw [List.length_map];have:=Ok.out
        omega
   by_cases hm:v ∈ x.v.ms
   ·rw [decide_eq_true hm] at HC;rw [if_pos hm] at HS;obtain ⟨v',w6,hr,Bv,hg⟩:=zK.pushG zah uf zdG Tryz.underlying51 zfo rfl uf Bo x.v.seq EF Aa.size;have AT:=Below.own Aa Bo hg zl Aa.size;have HF:=zh (zn Bv AT);rw [World.alloc_size] at hr;unfold zb0 at hr;go_wp2_with fail;refine HC.out.mono ?_;rintro e w5 ⟨rfl,rfl⟩
    go_wp2_with (at_builtin;refine za rfl _ _ _ rfl hr ?_)
    go_roundw
    case rel=>
     refine ⟨i+1,ud,by go_num, ?_,HF.out.2⟩
     rw [HS.out,<- List.append_assoc];exact HF.out.1
    case measure=> simp [intOf];omega
   rw [decide_eq_false hm] at HC;rw [if_neg hm,List.append_nil] at HS;have HF:=zh (zn Bo Aa);go_wp2_with fail;refine HC.out.mono ?_;rintro e w5 ⟨rfl,rfl⟩;go_wp2_with fail
   go_roundw
   case rel=> exact ⟨i+1,ud,by go_num,by rw [HS.out];exact HF.out.1,HF.out.2⟩
   case measure=> simp [intOf];omega
  obtain rfl:n=i:=ud;rw [zk uj,HE.out] at ho;obtain ⟨a,cc,hv,-⟩:=ho.row zah;have RV:L.length<=1000000:=by
       rw [<- HE.out,List.length_append];unfold ofB;rw [List.length_map];have h1:=List.length_filter_le (fun b:Bh=> decide (v ∈ b.v.ms)) bl;have:=HL.out;have:=Ok.out
       omega
  have J4:=zh (zki ho RV hb.size);unfold ziu at J4;subst hv;go_wp2_with fail;refine J4.out.mono ?_;rintro e w3 ⟨rfl,Am,SH⟩;have V1:=zh SH;go_wp2_with fail;refine V1.out.mono ?_;rintro e w4 ⟨u,rfl,NP,Ar⟩;have HF:=zh (zn NP (HB.out.trans Ar));go_wp2;go_ret;exact ⟨u,rfl,HF.out⟩
theorem zh6 {c:Ct}  (hc:zaV Q w h c) (hi:CtI c s k) (v:Int):
 χ 34 #[h.val c,↑v] w fun e w'=> ∃u,e=ρ u/\zhp ↑w w' u (c.ofL v)/\θ w w w':=
 zgr hc hi.klen hi.blen (fun b hb=> (hi.books b hb).2.2.len) v
end
end
section
open Go.RowKit
section
variable {Q:Nat→Prop}
def znC (l:List Bh):List Nat:=l.map (·.v.seq)
theorem znO {c:Ct} (hc:zaV Q w h c):c.kept++znC h.bl=c.allL:=by
 unfold Ct.allL znC;rw [<- hc.booksE,List.map_map]
 rfl
theorem zlV (l:List Bh)  {x:Bh} (hx:l[i]? =some x):znC (l.take (i+1))=znC (l.take i)++ [x.v.seq]:=by
 unfold znC;rw [List.take_add_one,hx,List.map_append]
 rfl
theorem zlr {c:Ct}  (hc:zaV Q w h c) (hi:CtI c s k):
 χ 103 #[h.val c] w fun e w'=> ∃u,e=ρ u/\zhp ↑w w' u c.allL/\θ w w w':=by
 have Aa:θ w w (w.alloc (.cells (h.cells c) 54)):=zr.alloc zl _;have Ac:h.bl.length=c.books.length:=by rw [<- hc.booksE,List.length_map]
 have Ah:=hc.books.row.row;rw [Ac] at Ah;have HK:=zh (zd6 (c:=h.kc) (hc.kept.row.below Aa zl) (by have:=hi.klen;omega))
 have H:=zh Ah;have Ak:=zh Aa;have HL:=zh Ac;have HE:=zh (znO hc);have Ok:=zh (zn hi.klen hi.blen);have AK:=zh (fun x hx=> zn (hc.books.sub x hx).row (show x.v.ms.length<=8 from (hi.books x.v uK).2.2.len));have hX:=heap_alloc_new w (.cells (h.cells c) 54);obtain ⟨-,-,-,-,-,-,x6,x7,-⟩:=zaf hX;have HX:=zh hX;unfold Ch.val;unfold Ch.cells at *;generalize c.allL=L at *;generalize c.kept=kept at *;generalize E9:c.books.length=n at *;generalize h.ba=ba at *;generalize h.bl=bl at *;go_in;go_wp2_with fail;refine HK.out.mono ?_;rintro e w2 ⟨v2,rfl,ho,Ae⟩;generalize Ab:w.alloc (.cells _ 54)=w1 at *;have x6:=(zY (Ae.block ↑w (by rw [<- Ab];simp)) 6).trans x6
 have A5:=ho.base (show ↑w<=w1.heap.size by rw [<- Ab];simp)
 have Ap:=zh (Ak.out.trans (Ae.mono Ak.out.size));have HO:=zh A5;go_wp2_with fail
 go_loopw [3,12] (fun u5 u wr=> ∃i:Nat,i<=n/\u= ι i/\zK zb0 1 22 wr ↑w u5 (kept++znC (bl.take i))/\θ w w wr) (fun _ u _=> n - (intOf u).toNat)
 case atStart=> exact ⟨0,ud,rfl,by rw [List.take_zero];unfold znC;simpa using HO.out,Ap.out⟩
 case round=>
  obtain ⟨i,hi,rfl,ho,hb⟩:=hrel;have HB:=zh hb;have FX:n<=1000:=by have:=Ok.out;omega
  by_cases hlt:i < n
  ·have Bb:(i:Int) < (n:Int):=ud;have AD:(0:Int)<=(i:Int):=ud;obtain ⟨x,hx⟩:∃x,bl[i]? =some x:=⟨_,ze uj⟩;obtain ⟨b,o,rfl,hc⟩:=(H.out.below hb zl).2 i x hx;have c0:=hc 0 _ rfl;have c1:=hc 1 _ rfl;have c2:=hc 2 _ rfl;simp only [Nat.add_zero] at c0;have AP:=AK.out x (zm hx);have Aa:=hb.alloc hb.size (.cells #[↑x.v.id,υ x.v.seq,σ x.a x.v.ms.length x.c] 132);have Bo:=ho.alloc (.cells #[↑x.v.id,υ x.v.seq,σ x.a x.v.ms.length x.c] 132);have HS:=zh (zlV bl hx);have EF:(kept++znC (bl.take i)).length<=100000000:=by
        have h2:(bl.take i).length<=i:=by rw [List.length_take];omega
        rw [List.length_append];unfold znC;rw [List.length_map];have:=Ok.out
        omega
   obtain ⟨v',w6,hr,Bv,hg⟩:=zK.pushG zah uf zdG Tryz.underlying51 zfo rfl uf Bo x.v.seq EF Aa.size;have AT:=Below.own Aa Bo hg zl Aa.size;have HF:=zh (zn Bv AT);rw [World.alloc_size] at hr;unfold zb0 at hr
   go_wp2_with (at_builtin;refine za rfl _ _ _ rfl hr ?_)
   go_roundw
   case rel=>
        refine ⟨i+1,ud,by go_num, ?_,HF.out.2⟩
        rw [HS.out,<- List.append_assoc];exact HF.out.1
   case measure=> simp [intOf];omega
  obtain rfl:n=i:=ud;rw [zk uj,HE.out] at ho;obtain ⟨a,cc,hv,-⟩:=ho.row zah;have RV:L.length<=1000000:=by
       rw [<- HE.out,List.length_append];unfold znC;rw [List.length_map];have:=HL.out;have:=Ok.out
       omega
  have J4:=zh (zki ho RV hb.size);unfold ziu at J4;subst hv;go_wp2_with fail;refine J4.out.mono ?_;rintro e w3 ⟨rfl,Am,SH⟩;have V1:=zh SH;go_wp2_with fail;refine V1.out.mono ?_;rintro e w4 ⟨u,rfl,NP,Ar⟩;have HF:=zh (zn NP (HB.out.trans Ar));go_wp2;go_ret;exact ⟨u,rfl,HF.out⟩
theorem zhp.row {L:List Nat} (h:zhp base w v L) (hL:L.length<=1000000) (x:Nat):∃a c n,v=σ a n c/\χ 78 #[v,υ x] w fun e w'=> e=ρ (.bool (decide (x ∈ L)))/\w'=w:=by
 obtain ⟨a,c,ps,rfl,hl,hm,hr,-⟩:=h;refine ⟨a,c,ps.length,rfl,(zes (c:=c) hr ud x).mono ?_⟩;rintro e w' ⟨rfl,rfl⟩;exact ⟨by rw [decide_eq_decide.2 (hm x)],rfl⟩
theorem zpq {c:Ct}  (hi:CtI c s k) (v:Int):(c.ofL v).length<=1000:=by
 unfold Ct.ofL;rw [List.length_append,List.length_map];have h1:=List.length_filter_le (fun b:Bk=> decide (v ∈ b.ms)) c.books;have:=hi.klen;have:=hi.blen
 omega
theorem zpo {c:Ct}  (hc:zaV Q w h c) (hi:CtI c s0 k) (v:Int) (s last:Nat):
 χ 40 #[h.val c,↑v,υ s,υ last] w fun e w'=> e=ρ (.bool (c.may v s last))/\θ w w w':=by
 have Aa:θ w w (w.alloc (.cells (h.cells c) 54)):=zr.alloc zl _;have hX:=heap_alloc_new w (.cells (h.cells c) 54);obtain ⟨w1,Ab⟩:∃w1,w1=w.alloc (.cells (h.cells c) 54):=⟨_,rfl⟩;rw [<- Ab] at Aa hX;have Ai:↑w1=w.heap.size+1:=by rw [Ab,World.alloc_size]
 have HC:=zh (zn (hc.below Aa) hi);have HF:=zh (zc2 (HC.out.1) (by have:=hi.vlen;omega) v)
 have Ak:=zh (zn Aa Ai);have HX:=zh hX;have Io:=zh (zhC hc v);obtain ⟨x0,x1,x2,x3,x4,x5,x6,x7,x8,-⟩:=zaf hX;clear hc hi Aa hX Ai;unfold Ch.val at *;unfold Ch.cells at *;go_in;go_upto_region 1 with fail;rw [<- Ab];clear Ab;go_upto_region 2 with fail;refine HF.out.mono ?_;rintro e w2 ⟨⟨x,hx,rfl⟩,Ae⟩;have A7:=(Ae.block ↑w (by have:=Ak.out.2;omega)).trans HX.out
 have Ap:=zh (zn (Ak.out.1.trans (Ae.mono Ak.out.1.size)) Ae);have hx:=hx.symm;clear HF Ae x0 x1 x2 x3 x4 x5 x6 x7 x8
 cases x with
 | none=>
   have HS:Hid (c.may v s last=false):=zh (by unfold Ct.may;rw [Io.out,hx];rfl)
   clear hx
   dsimp only [znH,Option.isSome]
   go_wp2;go_ret;exact ⟨by rw [HS.out];rfl,Ap.out.1.alloc Ap.out.1.size _⟩
 | some x=>
   have Tv:c.may v s last=(decide (x.v.born<=s) && (decide (s<=last) && (decide (c.fl<=s) || decide (s ∈ c.ofL v)))):=by
    unfold Ct.may;rw [Io.out,hx]
    rfl
   have HM:=zh Tv;have Am:=Ap.out.1.alloc Ap.out.1.size (.cells #[↑x.v.id,υ x.v.born,σ x.a x.v.sizes.length x.c] 86);have C0:=(Below.heap_alloc w2 (.cells #[↑x.v.id,υ x.v.born,σ x.a x.v.sizes.length x.c] 86) ↑w (zg A7).1).trans A7;have G4:=HC.out.1.below (Ap.out.2.trans ((Below.refl ↑w2 w2).alloc zl (.cells #[↑x.v.id,υ x.v.born,σ x.a x.v.sizes.length x.c] 86) |>.mono Ap.out.2.size))
   have HO:=zh (zh6 G4 HC.out.2 v);obtain ⟨x0,x1,x2,x3,x4,x5,x6,x7,x8,-⟩:=zaf C0;have AI:=zh Am;clear hx A7 C0 Tv G4 Am;unfold Ch.val Ch.cells at HO
   dsimp only [znH,Option.isSome]
   by_cases h1:s < x.v.born
   ·have i1:(s:Int) < (x.v.born:Int):=ud;have HS:Hid (c.may v s last=false):=zh (by rw [HM.out,decide_eq_false ud];rfl)
    clear HO h1;go_wp2;go_ret;exact ⟨by rw [HS.out];rfl,AI.out⟩
   have i1:¬(s:Int) < (x.v.born:Int):=ud
   by_cases h2:last < s
   ·have i2:(last:Int) < (s:Int):=ud;have HS:Hid (c.may v s last=false):=zh (by rw [HM.out,decide_eq_false (show ¬s<=last by omega)];simp)
    clear HO h1 h2;go_wp2;go_ret;exact ⟨by rw [HS.out];rfl,AI.out⟩
   have i2:¬(last:Int) < (s:Int):=ud
   by_cases h3:c.fl<=s
   ·have i3:(c.fl:Int)<=(s:Int):=ud;have HS:Hid (c.may v s last=true):=zh (by rw [HM.out,decide_eq_true (show x.v.born<=s by omega),decide_eq_true (show s<=last by omega),decide_eq_true h3];rfl)
    clear HO h1 h2 h3;go_wp2;go_ret;exact ⟨by rw [HS.out];rfl,AI.out⟩
   have i3:¬(c.fl:Int)<=(s:Int):=ud;have HS:Hid (c.may v s last=decide (s ∈ c.ofL v)):=zh (by rw [HM.out,decide_eq_true (show x.v.born<=s by omega),decide_eq_true (show s<=last by omega),decide_eq_false h3];simp)
   clear h1 h2 h3;go_wp2_with fail;refine HO.out.mono ?_;rintro e w4 ⟨u,rfl,NP,Ar⟩;obtain ⟨a,cc,n,rfl,kf⟩:=NP.row (by have:=zpq HC.out.2 v;omega) s
   have Og:=zh kf;have Cz:=zh (AI.out.trans (Ar.mono AI.out.size));clear NP kf Ar HO x0 x1 x2 x3 x4 x5 x6 x7 x8;go_wp2_with fail;refine Og.out.mono ?_;rintro e w5 ⟨rfl,rfl⟩;generalize decide (s ∈ c.ofL v)=bb at *;go_wp2;go_ret;exact ⟨by rw [HS.out];rfl,Cz.out⟩
end
end
section
open Go.RowKit
theorem zbz {c:Ct}  (hc:zaV Q w h c) (hi:CtI c s0 k) (v:Int) (s last:Nat):
 χ 19 #[h.val c,↑v,υ s,υ last] w fun e w'=> e=ρ (.tuple #[ι ((c.sizeAt v s last).2:Nat),ι ((c.sizeAt v s last).1:Nat)])/\θ w w w':=by
 have Aa:θ w w (w.alloc (.cells (h.cells c) 54)):=zr.alloc zl _;have hX:=heap_alloc_new w (.cells (h.cells c) 54);obtain ⟨w1,Ab⟩:∃w1,w1=w.alloc (.cells (h.cells c) 54):=⟨_,rfl⟩;rw [<- Ab] at Aa hX;have Ai:↑w1=w.heap.size+1:=by rw [Ab,World.alloc_size]
 have HC:=zh (zn (hc.below Aa) hi);have HF:=zh (zc2 (HC.out.1) (by have:=hi.vlen;omega) v)
 have Ak:=zh (zn Aa Ai);have HX:=zh hX;have Io:=zh (zhC hc v);obtain ⟨x0,x1,x2,x3,x4,x5,x6,x7,x8,-⟩:=zaf hX;clear hc hi Aa hX Ai;unfold Ch.val at *;unfold Ch.cells at *;go_in;go_upto_region 1 with fail;rw [<- Ab];clear Ab;go_upto_region 2 with fail;refine HF.out.mono ?_;rintro e w2 ⟨⟨x,hx,rfl⟩,Ae⟩;have A7:=(Ae.block ↑w (by have:=Ak.out.2;omega)).trans HX.out
 have Ap:=zh (zn (Ak.out.1.trans (Ae.mono Ak.out.1.size)) Ae);have hx:=hx.symm;clear HF Ae x0 x1 x2 x3 x4 x5 x6 x7 x8
 cases x with
 | none=>
   have HS:Hid (c.sizeAt v s last=(40,0)):=zh (by unfold Ct.sizeAt;rw [Io.out,hx];rfl)
   clear hx
   dsimp only [znH,Option.isSome]
   go_wp2;go_ret2;exact ⟨by rw [HS.out];rfl,Ap.out.1.alloc Ap.out.1.size _⟩
 | some x=>
   have VD:c.sizeAt v s last=match zdD x.v.sizes s with
    | none=> (44,0)
    | some n=> if c.may v s last then (0,n) else (44,0):=by
    unfold Ct.sizeAt;rw [Io.out,hx]
    rfl
   have HM:=zh VD;have hv:=HC.out.1.vol hx;have Ea:=(HC.out.2.vols x.v hv.2).sizes;have EL:θ w2 w2 (w2.alloc (.cells #[↑x.v.id,υ x.v.born,σ x.a x.v.sizes.length x.c] 86)):=(Below.refl ↑w2 w2).alloc zl _;have Am:=Ap.out.1.trans (EL.mono Ap.out.1.size);have Ao:=Ap.out.2.trans (EL.mono Ap.out.2.size);have C0:=(EL.block ↑w (zg A7).1).trans A7;have HA:=zh (zow (c:=x.c) (hv.1.row.below Ao zl) (by have:=Ea.len;omega) (fun m hm=> (Ea.fit m hm).2.2) s)
   have Qo:=zh (zpo (HC.out.1.below Ao) HC.out.2 v s last);obtain ⟨x0,x1,x2,x3,x4,x5,x6,x7,x8,-⟩:=zaf C0;have AI:=zh Am;clear hx A7 C0 VD Am Ao EL hv Ea;unfold Ch.val Ch.cells at Qo
   dsimp only [znH,Option.isSome]
   cases hz:zdD x.v.sizes s with
   | none=>
     rw [hz] at HA;have HS:Hid (c.sizeAt v s last=(44,0)):=zh (by rw [HM.out,hz])
     clear Qo hz
     dsimp only [Option.isSome,Option.getD] at HA
     go_wp2_with fail;refine HA.out.mono ?_;rintro e w5 ⟨rfl,rfl⟩;go_wp2;go_ret2;exact ⟨by rw [HS.out];rfl,AI.out⟩
   | some n=>
     rw [hz] at HA
     cases hy:c.may v s last with
     | true=>
       rw [hy] at Qo;have HS:Hid (c.sizeAt v s last=(0,n)):=zh (by rw [HM.out,hz,hy];rfl)
       clear hz hy
       dsimp only [Option.isSome,Option.getD] at HA
       go_wp2_with fail;refine HA.out.mono ?_;rintro e w5 ⟨rfl,rfl⟩;go_wp2_with fail;refine Qo.out.mono ?_;rintro e w6 ⟨rfl,AT⟩;have DW:=zh (AI.out.trans (AT.mono AI.out.size));clear AT x0 x1 x2 x3 x4 x5 x6 x7 x8;go_wp2;go_ret2;exact ⟨by rw [HS.out];rfl,DW.out⟩
     | false=>
       rw [hy] at Qo;have HS:Hid (c.sizeAt v s last=(44,0)):=zh (by rw [HM.out,hz,hy];rfl)
       clear hz hy
       dsimp only [Option.isSome,Option.getD] at HA
       go_wp2_with fail;refine HA.out.mono ?_;rintro e w5 ⟨rfl,rfl⟩;go_wp2_with fail;refine Qo.out.mono ?_;rintro e w6 ⟨rfl,AT⟩;have DW:=zh (AI.out.trans (AT.mono AI.out.size));clear AT x0 x1 x2 x3 x4 x5 x6 x7 x8;go_wp2;go_ret2;exact ⟨by rw [HS.out];rfl,DW.out⟩
end
end Go.Proofs.YtaoceecfjlkmdaaGreat
