/- Lemmas of the walks, merged and pressed by press.py. Conditions: those of each theorem. -/
import Derived.Test.YtaoceecfjlkmdaaGreatM18
import Derived.Test.YtaoceecfjlkmdaaGreatM21
set_option maxRecDepth 100000
set_option maxHeartbeats 64000000
set_option linter.all false
namespace Go.Proofs.YtaoceecfjlkmdaaGreat
section
open Go.RowKit
def zep (w:World) (g:Nat) (xs:List Nat):Prop:=∃cs:Array Value,w.heap[g]? =some (.cells cs 22 (0,0))∧∀i x:Nat,xs[i]? =some x→cs[i]? =some (.int .u64 (x:Int))
def zar (g:Nat) (w0:World) (xs0:List Nat) (w:World):Prop:=∃xs,xs.Perm xs0∧zep w g xs∧w0.grownBy w (some g)
theorem zep.st {w:World} {g:Nat} {xs:List Nat} (h:zep w g xs):zar g w xs w:=⟨xs,List.Perm.refl _,h,World.grownBy.refl _ _⟩
theorem zar.drew {g:Nat} {w0 w:World} {xs0:List Nat} (h:zar g w0 xs0 w):zar g w0 xs0 w.drew:=by
 obtain ⟨xs,h1,h2,h3⟩:=h;exact ⟨xs,h1,h2,⟨h3.os,h3.tape,h3.output,h3.size,h3.block⟩⟩
theorem zar.drewN {g:Nat} {w0 w:World} {xs0:List Nat} (h:zar g w0 xs0 w) (q:Nat):zar g w0 xs0 (w.drewN q):=by
 induction q with
 | zero=> exact h
 | succ q ih=> exact ih.drew
theorem zar.glt {g:Nat} {w0 w:World} {xs0:List Nat} (h:zar g w0 xs0 w):g < w.heap.size:=by
 obtain ⟨xs,h1,⟨cs,h2,-⟩,h3⟩:=h;exact (zg h2).1
theorem zar.heap {g:Nat} {w0 w w':World} {xs0:List Nat} (h:zar g w0 xs0 w) (hb:Below w.heap.size w w'):zar g w0 xs0 w':=by
 have hg:=h.glt;obtain ⟨xs,h1,⟨cs,h2,h4⟩,h3⟩:=h;exact ⟨xs,h1,⟨cs,(hb.block g hg).trans h2,h4⟩,⟨hb.os.trans h3.os,hb.tape.trans h3.tape,hb.output.trans h3.output,zs h3.size hb.size,fun j hj hn=> (hb.block j (zt hj h3.size)).trans (h3.block j hj hn)⟩⟩
theorem zar.at {g:Nat} {w0 w:World} {xs0:List Nat} (h:zar g w0 xs0 w) (i:Nat) (hi:i < xs0.length):∃x:Nat,w.cell? ⟨g,i,none⟩=some (.int .u64 (x:Int))∧w.frozen? ⟨g,i,none⟩=false:=by
 obtain ⟨xs,h1,⟨cs,h2,h4⟩,h3⟩:=h;have hl:=h1.length_eq;obtain ⟨x,hx⟩:∃x,xs[i]? =some x:=⟨_,ze (by omega)⟩
 refine ⟨x, ?_,by simp [World.frozen?,h2]⟩
 have:=h4 i x hx;simp [World.cell?,h2,this]
theorem zar.swap {g:Nat} {w0 w:World} {xs0:List Nat} (h:zar g w0 xs0 w) (i j:Nat) (hi:i < xs0.length) (hj:j < xs0.length):∃x y:Nat,w.cell? ⟨g,i,none⟩=some (.int .u64 (x:Int))∧w.cell? ⟨g,j,none⟩=some (.int .u64 (y:Int))∧w.frozen? ⟨g,i,none⟩=false∧w.frozen? ⟨g,j,none⟩=false∧(w.setCell ⟨g,i,none⟩ (.int .u64 (y:Int))).frozen? ⟨g,j,none⟩=false∧(w.setCell ⟨g,i,none⟩ (.int .u64 (y:Int))).cell? ⟨g,j,none⟩=some (.int .u64 (y:Int))∧zar g w0 xs0 ((w.setCell ⟨g,i,none⟩ (.int .u64 (y:Int))).setCell ⟨g,j,none⟩ (.int .u64 (x:Int))):=by
 obtain ⟨xs,h1,⟨cs,h2,h4⟩,h3⟩:=h;have hl:=h1.length_eq;obtain ⟨x,hx⟩:∃x,xs[i]? =some x:=⟨_,ze (by omega)⟩
 obtain ⟨y,hy⟩:∃y,xs[j]? =some y:=⟨_,ze (by omega)⟩
 have cx:=h4 i x hx;have cy:=h4 j y hy;have De:=(zg cx).1;have FT:=(zg cy).1;have e1:=heap_setCell_same w g i cs 22 (.int .u64 (y:Int)) h2;have e2:=heap_setCell_same _ g j _ 22 (.int .u64 (x:Int)) e1;have Bd:(cs.setIfInBounds i (.int .u64 (y:Int)))[j]? =some (.int .u64 (y:Int)):=by
  rw [Array.getElem?_setIfInBounds]
  split
  ·first
        | rfl
        | rw [if_pos De]
  ·exact cy
 refine ⟨x,y,by simp [World.cell?,h2,cx],by simp [World.cell?,h2,cy],by simp [World.frozen?,h2],by simp [World.frozen?,h2],by simp [World.frozen?,e1],by simp [World.cell?,e1,Bd],((xs.set i y).set j x), ?_,⟨_,e2,fun m z hz=> ?_⟩,h3.trans ((zq w ⟨g,i,none⟩ (.int .u64 (y:Int))).trans (zq (w.setCell ⟨g,i,none⟩ (.int .u64 (y:Int))) ⟨g,j,none⟩ (.int .u64 (x:Int))))⟩
 ·obtain ⟨Bb,rfl⟩:=zi hx;obtain ⟨EB,rfl⟩:=zi hy;exact (List.set_set_perm Bb EB).trans h1
 ·rw [List.getElem?_set,List.getElem?_set] at hz;rw [Array.getElem?_setIfInBounds,Array.getElem?_setIfInBounds];simp only [Array.size_setIfInBounds,List.length_set] at hz ⊢
  by_cases ej:j=m
  ·rw [if_pos ej] at hz ⊢;rw [if_pos (by omega)] at hz
   rw [if_pos (by omega)]
   have:=Option.some.inj hz;rw [this]
  ·rw [if_neg ej] at hz ⊢
   by_cases ei:i=m
   ·rw [if_pos ei] at hz ⊢;rw [if_pos (by omega)] at hz
    rw [if_pos (by omega)]
    have:=Option.some.inj hz;rw [this]
   ·rw [if_neg ei] at hz ⊢;exact h4 m z hz
theorem zaB (x y:Nat) (w:World):Calls Tryz.prog 172 #[.int .u64 (x:Int), .int .u64 (y:Int)] w fun e w'=> e= .returned (.bool (decide (x < y)))∧w'=w:=by
 go_enter Tryz.func172,Tryz.ntmps172
 go_wp2_with (first | (go_at_call 212;refine (zbJ _ _).mono ?_;rintro e w' ⟨rfl,rfl⟩))
 go_ret;exact ⟨rfl,rfl⟩
theorem zgV {g n c:Nat} {w0 w:World} {xs0:List Nat} (h:zar g w0 xs0 w) (hn:xs0.length=n) (BH:n≤1000000) (a b:Nat) (Dh:a≤b) (hb:b≤n):
 Calls Tryz.prog 166 #[.slice (some ⟨g,0,none⟩) n c, .int .i64 (a:Int), .int .i64 (b:Int)] w fun e w'=> e= .returned (.tuple #[])∧zar g w0 xs0 w':=by
 have H:=zh h;have HN:=zh hn;have sa:IntKind.i64.wrap ((a:Int)+1)=((a+1:Nat):Int):=by rw [zw _ (by omega)];omega
 clear h hn;go_enter Tryz.func166,Tryz.ntmps166;go_wp2_with fail
 go_loopw [6] (fun u6 wr=> ∃i:Nat,a < i∧i≤b+1∧u6= .int .i64 i∧zar g w0 xs0 wr) (fun u6 _=> b+1 - (intOf u6).toNat)
 case atStart=> exact ⟨a+1,by omega,by omega,by first | rfl | go_num,H.out⟩
 case round =>
  obtain ⟨i,bR,kD,rfl,hS⟩:=hrel;have HS:=zh hS;clear hS sa
  by_cases hlt:i < b
  ·have Bb :(i:Int) < (b:Int):=by omega
   have si:IntKind.i64.wrap ((i:Int)+1)=((i+1:Nat):Int):=by rw [zw _ (by omega)];omega
   rename World=> wo;go_wp2_with fail
   go_loopw [7] (fun u7 wr=> ∃j:Nat,a≤j∧j≤i∧u7= .int .i64 j∧zar g w0 xs0 wr) (fun u7 _=> (intOf u7).toNat)
   case atStart=> exact ⟨i,by omega,by omega,rfl,HS.out⟩
   case round=>
        obtain ⟨j,j8,Et,rfl,DC⟩:=hrel;have Bl:=zh DC
        by_cases kK:a < j
        ·obtain ⟨m,rfl⟩:∃m,j=m+1:=⟨j - 1,by omega⟩
         have Ac:=HN.out;obtain ⟨x,hx,-⟩:=DC.at (m+1) (by omega)
         obtain ⟨y,hy,-⟩:=DC.at m (by omega)
         have sm:IntKind.i64.wrap (((m+1:Nat):Int) - 1)=(m:Int):=by rw [zw _ (by omega)];omega
         have b0:(0:Int)≤(m:Int):=by omega
         have b1:(m:Int) < (n:Int):=by omega
         have b2:(0:Int)≤((m+1:Nat):Int):=by omega
         have b3:((m+1:Nat):Int) < (n:Int):=by omega
         have b4:(a:Int) < ((m+1:Nat):Int):=by omega
         have HM:=zh (zn j8 (zn Et kK));clear DC Ac j8 Et kK;obtain ⟨m1,CT⟩:∃m1,m1=m+1:=⟨_,rfl⟩;rw [← CT] at hx sm b2 b3 b4;rw [← CT];have Eh:=zh CT;clear CT;go_wp2_with fail
         go_quiet ((go_at_call 172;exact Calls.quiet_of_same (zaB _ _ _)))
         have CJ:=Bl.out.drewN nq;generalize decide (x < y)=bl at *;obtain ⟨p,q,e0,e1,f0,f1,f2,e2,BS⟩:=CJ.swap m1 m (by have:=Eh.out;have:=HN.out;omega) (by have:=HN.out;omega)
         have Az:=zh (zn CJ BS);clear CJ BS hx hy;generalize wr.drewN nq=wq at *
         cases bl with
         | true=>
           go_wp2_with fail
           go_region_law fail
           all_goals
            go_wp2_with fail
            go_roundw
            case rel=> exact ⟨m,by have:=HM.out;have:=Eh.out;omega,by have:=HM.out;have:=Eh.out;omega,rfl,by first | exact Az.out.2 | exact Az.out.2.drew | exact Az.out.2.drewN _⟩
            case measure=> have:=Eh.out;simp [intOf];omega
         | false=>
           go_wp2_with fail
           go_roundw
           case rel=> exact ⟨i+1,by omega,by omega,rfl,Az.out.1⟩
           case measure=> simp [intOf];omega
        ·obtain rfl:a=j:=by omega
         have b4:¬((a:Int) < (a:Int)):=by omega
         clear DC;go_wp2_with fail
         go_quiet (fail)
         have Bm:=zh (Bl.out.drewN nq);go_wp2_with fail
         go_roundw
         case rel=> exact ⟨i+1,by omega,by omega,rfl,Bm.out⟩
         case measure=> simp [intOf];omega
  ·have Bb:¬((i:Int) < (b:Int)):=by omega
   go_wp2_with fail;go_end0;exact ⟨rfl,HS.out⟩
theorem zkh {g n c:Nat} {w0 w:World} {xs0:List Nat} (h:zar g w0 xs0 w) (hn:xs0.length=n) (BH:n≤1000000) (lo hi first:Nat) (yL:first+hi≤n) (Gd:lo≤n):
 Calls Tryz.prog 207 #[.slice (some ⟨g,0,none⟩) n c, .int .i64 (lo:Int), .int .i64 (hi:Int), .int .i64 (first:Int)] w fun e w'=> e= .returned (.tuple #[])∧zar g w0 xs0 w':=by
 have H:=zh h;have HN:=zh hn;clear h hn;go_enter Tryz.func207,Tryz.ntmps207;go_wp2_with fail
 go_loopw [8] (fun u8 wr=> ∃r:Nat,r≤n∧u8= .int .i64 r∧zar g w0 xs0 wr) (fun u8 _=> hi - (intOf u8).toNat)
 case atStart=> exact ⟨lo,Gd,rfl,H.out⟩
 case round=>
  obtain ⟨r,hr,rfl,hS⟩:=hrel;have HS:=zh hS;clear hS;have s1:IntKind.i64.wrap (2 * (r:Int))=2 * (r:Int):=zw _ (by omega)
  have s2:IntKind.i64.wrap (2 * (r:Int)+1)=((2 * r+1:Nat):Int):=by rw [zw _ (by omega)];omega
  have s4:IntKind.i64.wrap (((2 * r+1:Nat):Int)+1)=((2 * r+1+1:Nat):Int):=by rw [zw _ (by omega)];omega
  by_cases hlt:2 * r+1 < hi
  ·obtain ⟨m,hm⟩:∃m,m=2 * r+1:=⟨_,rfl⟩;obtain ⟨m1,CT⟩:∃m1,m1=m+1:=⟨_,rfl⟩;obtain ⟨p,hp⟩:∃p,p=first+m:=⟨_,rfl⟩
   obtain ⟨p1,DJ⟩:∃p1,p1=p+1:=⟨_,rfl⟩;obtain ⟨pr,Fb⟩:∃pr,pr=first+r:=⟨_,rfl⟩
   rw [← hm,← CT] at s4;rw [← hm] at s2;have t1:IntKind.i64.wrap ((first:Int)+(m:Int))=(p:Int):=by rw [zw _ (by omega)];omega
   have t2:IntKind.i64.wrap ((p:Int)+1)=(p1:Int):=by rw [zw _ (by omega)];omega
   have t3:IntKind.i64.wrap ((first:Int)+(r:Int))=(pr:Int):=by rw [zw _ (by omega)];omega
   have t4:IntKind.i64.wrap ((first:Int)+(m1:Int))=(p1:Int):=by rw [zw _ (by omega)];omega
   have g1:¬((hi:Int)≤(m:Int)):=by omega
   have HB:=zh (show r < m∧m < hi∧m1=m+1∧p=first+m∧p1=p+1∧pr=first+r∧first+hi≤n∧xs0.length=n from ⟨by omega,by omega,CT,hp,DJ,Fb,yL,HN.out⟩)
   have i0:(0:Int)≤(p:Int):=by omega
   have i1:(p:Int) < (n:Int):=by omega
   have i2:(0:Int)≤(pr:Int):=by omega
   have i3:(pr:Int) < (n:Int):=by omega
   have i4:(0:Int)≤(p1:Int):=by omega
   clear hm CT hp DJ Fb hlt;go_upto_region 3 with fail
   go_cut [36] from 17 to 75 (fun u36 wx=> ∃bl:Bool,u36= .bool bl∧(bl=true→m1 < hi)∧zar g w0 xs0 wx)
   case first=>
        by_cases h2:m1 < hi
        ·have g3:((m1:Int) < (hi:Int)):=by omega
         have i5:(p1:Int) < (n:Int):=by have:=HB.out;omega
         obtain ⟨x,hx,-⟩:=HS.out.at p (by have:=HB.out;omega)
         obtain ⟨y,hy,-⟩:=HS.out.at p1 (by have:=HB.out;omega)
         have H2:=zh h2;clear h2
         go_quiet ((go_at_call 172;exact Calls.quiet_of_same (zaB _ _ _)))
         have Bm:=zh (HS.out.drewN nq);go_wp2_with fail
         go_meet
         case rel=> exact ⟨_,rfl,fun _=> H2.out,Bm.out⟩
        ·have g3:¬((m1:Int) < (hi:Int)):=by omega
         clear h2
         go_quiet (fail)
         have Bm:=zh (HS.out.drewN nq);go_wp2_with fail
         go_meet
         case rel=> exact ⟨false,rfl,(by intro h;cases h),Bm.out⟩
   case rest =>
        obtain ⟨bl,rfl,E8,jP⟩:=hcut;have Qr:=zh jP;clear jP
        cases bl with
        | true=>
          have HL:=zh (E8 rfl);have i5:(p1:Int) < (n:Int):=by have:=HB.out;have:=HL.out;omega
          clear E8;obtain ⟨x,hx,-⟩:=Qr.out.at pr (by have:=HB.out;omega)
          obtain ⟨y,hy,-⟩:=Qr.out.at p1 (by have:=HB.out;omega)
          go_wp2_with fail
          go_quiet ((go_at_call 172;exact Calls.quiet_of_same (zaB _ _ _)))
          have CJ:=Qr.out.drewN nq;generalize decide (x < y)=b2 at *;obtain ⟨z0,z1,e0,e1,f0,f1,f2,e2,BS⟩:=CJ.swap pr p1 (by have:=HB.out;omega) (by have:=HB.out;omega)
          have Az:=zh (zn CJ BS);clear CJ BS hx hy;generalize wc.drewN nq=wq at *
          cases b2 with
          | false=>
            go_wp2_with fail;refine bodyPost_ret (results_none rfl _ _ _) rfl ?_;exact ⟨rfl,Az.out.1⟩
          | true=>
            go_wp2_with fail
            go_region_law fail
            all_goals
             go_wp2_with fail
             go_roundw
             case rel=> exact ⟨m1,by have:=HB.out;omega,rfl,by first | exact Az.out.2 | exact Az.out.2.drew | exact Az.out.2.drewN _⟩
             case measure=> have:=HB.out;have:=HL.out;simp [intOf];omega
        | false=>
          clear E8;obtain ⟨x,hx,-⟩:=Qr.out.at pr (by have:=HB.out;omega)
          obtain ⟨y,hy,-⟩:=Qr.out.at p (by have:=HB.out;omega)
          go_wp2_with fail
          go_quiet ((go_at_call 172;exact Calls.quiet_of_same (zaB _ _ _)))
          have CJ:=Qr.out.drewN nq;generalize decide (x < y)=b2 at *;obtain ⟨z0,z1,e0,e1,f0,f1,f2,e2,BS⟩:=CJ.swap pr p (by have:=HB.out;omega) (by have:=HB.out;omega)
          have Az:=zh (zn CJ BS);clear CJ BS hx hy;generalize wc.drewN nq=wq at *
          cases b2 with
          | false=>
            go_wp2_with fail;refine bodyPost_ret (results_none rfl _ _ _) rfl ?_;exact ⟨rfl,Az.out.1⟩
          | true=>
            go_wp2_with fail
            go_region_law fail
            all_goals
             go_wp2_with fail
             go_roundw
             case rel=> exact ⟨m,by have:=HB.out;omega,rfl,by first | exact Az.out.2 | exact Az.out.2.drew | exact Az.out.2.drewN _⟩
             case measure=> have:=HB.out;have:=HB.out;simp [intOf];omega
  ·have g1:((hi:Int)≤((2 * r+1:Nat):Int)):=by omega
   clear hlt;obtain ⟨m,hm⟩:∃m,m=2 * r+1:=⟨_,rfl⟩;rw [← hm] at s2 g1;clear hm s4;go_wp2_with fail;go_end0;exact ⟨rfl,HS.out⟩
theorem zhT {g n c:Nat} {w0 w:World} {xs0:List Nat} (h:zar g w0 xs0 w) (hn:xs0.length=n) (BH:n≤1000000) (a b:Nat) (Dh:a < b) (hb:b≤n):
 Calls Tryz.prog 167 #[.slice (some ⟨g,0,none⟩) n c, .int .i64 (a:Int), .int .i64 (b:Int)] w fun e w'=> e= .returned (.tuple #[])∧zar g w0 xs0 w':=by
 have H:=zh h;have HN:=zh hn;obtain ⟨k,rfl⟩:∃k,b=a+k+1:=⟨b - a - 1,by omega⟩
 have s0:IntKind.i64.wrap (((a+k+1:Nat):Int) - (a:Int))=((k+1:Nat):Int):=by rw [zw _ (by omega)];omega
 have s1:IntKind.i64.wrap (((k+1:Nat):Int) - 1)=(k:Int):=by rw [zw _ (by omega)];omega
 have s2:(k:Int) / 2=((k / 2:Nat):Int):=by omega
 obtain ⟨hi,JI⟩:∃hi,hi=k+1:=⟨_,rfl⟩;obtain ⟨b',Gz⟩:∃b',b'=a+k+1:=⟨_,rfl⟩;obtain ⟨k2,Cg⟩:∃k2,k2=k / 2:=⟨_,rfl⟩;rw [← JI,← Gz] at s0;rw [← JI] at s1;rw [← Cg] at s2;have s3:IntKind.i64.wrap (k2:Int)=(k2:Int):=zw _ (by omega)
 rw [← Gz];have HK:=zh (zn JI (zn Gz (zn Cg hb)));have kb:0≤(k:Int):=by omega
 clear h hn JI Gz Cg hb Dh;go_enter Tryz.func167,Tryz.ntmps167;go_wp2_with fail
 go_loopw [9] (fun u9 wr=> ∃m:Nat,m≤hi∧u9= .int .i64 ((m:Int) - 1)∧zar g w0 xs0 wr) (fun u9 _=> (intOf u9+1).toNat)
 case atStart=> exact ⟨k2+1,by have:=HK.out;omega,by congr 1;omega,H.out⟩
 case round=>
  obtain ⟨m,hm,rfl,hS⟩:=hrel;have HS:=zh hS;clear hS
  by_cases DT:0 < m
  ·obtain ⟨j,rfl⟩:∃j,m=j+1:=⟨m - 1,by omega⟩
   have ej:((j+1:Nat):Int) - 1=(j:Int):=by omega
   rw [ej];have sj:IntKind.i64.wrap ((j:Int) - 1)=(j:Int) - 1:=zw _ (by have:=HK.out;omega)
   have g0:(0:Int)≤(j:Int):=by omega
   have vD:=zh (zkh (c:=c) HS.out HN.out BH j hi a (by have:=HK.out;omega) (by have:=HK.out;omega))
   clear ej DT;go_wp2_with fail;refine vD.out.mono ?_;rintro e w2 ⟨rfl,DC⟩;have Bl:=zh DC;clear DC;go_wp2_with fail
   go_roundw
   case rel=> exact ⟨j,by omega,rfl,Bl.out⟩
   case measure=> simp [intOf]
  ·obtain rfl:m=0:=by omega
   have g0:¬((0:Int)≤((0:Nat):Int) - 1):=by omega
   have ez:((0:Nat):Int) - 1=-1:=by omega
   rw [ez];clear DT ez g0;go_wp2_with fail
   go_loopw [10] (fun u10 wr=> ∃m:Nat,m≤hi∧u10= .int .i64 ((m:Int) - 1)∧zar g w0 xs0 wr) (fun u10 _=> (intOf u10+1).toNat)
   case atStart=> exact ⟨hi,by omega,by congr 1;have:=HK.out;omega,HS.out⟩
   case round=>
        obtain ⟨m,hm,rfl,hS⟩:=hrel;have HS:=zh hS;clear hS
        by_cases DT:0 < m
        ·obtain ⟨j,rfl⟩:∃j,m=j+1:=⟨m - 1,by omega⟩
         have ej:((j+1:Nat):Int) - 1=(j:Int):=by omega
         rw [ej];have sj:IntKind.i64.wrap ((j:Int) - 1)=(j:Int) - 1:=zw _ (by have:=HK.out;omega)
         have g0:(0:Int)≤(j:Int):=by omega
         obtain ⟨p,hp⟩:∃p,p=a+j:=⟨_,rfl⟩;have t1:IntKind.i64.wrap ((a:Int)+(j:Int))=(p:Int):=by rw [zw _ (by have:=HK.out;omega)];omega
         have i0:(0:Int)≤(p:Int):=by omega
         have i1:(p:Int) < (n:Int):=by have:=HK.out;omega
         have i2:(0:Int)≤(a:Int):=by omega
         have i3:(a:Int) < (n:Int):=by have:=HK.out;omega
         obtain ⟨z0,z1,e0,e1,f0,f1,f2,e2,BS⟩:=HS.out.swap a p (by have:=HK.out;have:=HN.out;omega) (by have:=HK.out;have:=HN.out;omega)
         have Az:=zh BS;have HJ:=zh (zn hm hp);clear ej DT BS hp hm;go_wp2_with fail
         go_region_law fail
         all_goals
          have NZ:=(by first | exact Az.out | exact Az.out.drew | exact Az.out.drewN _:zar g w0 xs0 _)
          go_wp2_with fail;refine (zkh (c:=c) (w0:=w0) (by first | exact Az.out | exact Az.out.drew | exact Az.out.drewN _) HN.out BH 0 j a (by have:=HK.out;have:=HJ.out;omega) (by omega)).mono ?_
          rintro e w2 ⟨rfl,DC⟩;have Bl:=zh DC;clear DC;go_wp2_with fail
          go_roundw
          case rel=> exact ⟨j,by have:=HJ.out;omega,rfl,Bl.out⟩
          case measure=> simp [intOf]
        ·obtain rfl:m=0:=by omega
         have ez:((0:Nat):Int) - 1=-1:=by omega
         rw [ez];clear DT ez;go_wp2_with fail;go_end0;exact ⟨rfl,HS.out⟩
end
section
open Go.RowKit
theorem zep.at {w:World} {g:Nat} {xs:List Nat} (h:zep w g xs) {i x:Nat} (hx:xs[i]? =some x):w.cell? ⟨g,i,none⟩=some (.int .u64 (x:Int))∧w.frozen? ⟨g,i,none⟩=false:=by
 obtain ⟨cs,h1,h2⟩:=h;exact ⟨by simp [World.cell?,h1,h2 i x hx],by simp [World.frozen?,h1]⟩
theorem zep.heap {w w':World} {g:Nat} {xs:List Nat} (h:zep w g xs) (e:w'.heap[g]? =w.heap[g]?):zep w' g xs:=by
 obtain ⟨cs,h1,h2⟩:=h;exact ⟨cs,e.trans h1,h2⟩
theorem zep.set {w:World} {g:Nat} {xs:List Nat} (h:zep w g xs) {i:Nat} (hi:i < xs.length) (v:Nat):zep (w.setCell ⟨g,i,none⟩ (.int .u64 (v:Int))) g (xs.set i v)∧w.grownBy (w.setCell ⟨g,i,none⟩ (.int .u64 (v:Int))) (some g):=by
 obtain ⟨cs,h1,h2⟩:=h;have e1:=heap_setCell_same w g i cs 22 (.int .u64 (v:Int)) h1;refine ⟨⟨_,e1,fun j x hj=> ?_⟩,zq w ⟨g,i,none⟩ _⟩;rw [List.getElem?_set] at hj;rw [Array.getElem?_setIfInBounds]
 split at hj
 ·rename_i Fr
  subst Fr;rw [if_pos rfl];have hc:=h2 i xs[i] (ze hi);have:=(zg hc).1;rw [if_pos this];simp [hi] at hj;rw [hj]
 ·rename_i Fr
  rw [if_neg Fr];exact h2 j x hj
theorem zep.take {w:World} {g:Nat} {xs:List Nat} (h:zep w g xs) (k:Nat):zep w g (xs.take k):=by
 obtain ⟨cs,h1,h2⟩:=h;refine ⟨cs,h1,fun i x hx=> h2 i x ?_⟩;rw [List.getElem?_take] at hx
 split at hx
 ·exact hx
 ·cases hx
theorem zep.clear {P:Program} {t:TypeId} (hu:P.underlying t=some (.slice 22)) (hi:(P.info? 22).map (fun i=> (i.zero,i.size,i.bytes))=some (some (.int .u64 0),1,8)) {w:World} {g:Nat} {xs:List Nat} (h:zep w g xs) {k n:Nat} (hk:k+n≤xs.length) (o:Nat) (ho:n=0∨o=k):
 ∃w',(∀ty c,(Builtin.clear_ #[t] ty #[.slice (some ⟨g,o,none⟩) n c]).run P w= .ok (.tuple #[]) w')∧zep w' g (xs.take k)∧w.grownBy w' (some g):=by
 obtain ⟨i0,AD,AG,Ai,-⟩:=zW hi;obtain ⟨cs,h1,h2⟩:=h
 cases n with
 | zero=> exact ⟨w,fun ty c=> by simp [Builtin.clear_,run_underlying hu],zep.take ⟨cs,h1,h2⟩ k,World.grownBy.refl _ _⟩
 | succ n=>
   have Fv:o=k:=by omega
   rw [Fv];clear Fv ho o;have AR:k+(n+1)≤cs.size:=by
    have hx:=h2 (k+n) xs[k+n] (ze (by omega))
    have:=(zg hx).1
    omega
   have hv:∀w:World,(zeroValue 22).run P w= .ok (.int .u64 0) w:=fun w=> by simp [zeroValue,typeInfo,AD,AG]
   have F5:(Builtin.zeroCells (Value.int .u64 0).cells (n+1)).toList.length=n+1:=by rw [Array.length_toList,size_zeroCells];simp [Value.cells]
   have AO:=run_storeCells_at P g k 22 (Builtin.zeroCells (Value.int .u64 0).cells (n+1)).toList 0 cs w h1 (by rw [F5];omega) (fun u hu=> by
    rw [Array.mem_toList_iff] at hu;unfold Builtin.zeroCells at hu;obtain ⟨j,-,rfl⟩:=Array.mem_map.1 hu;simp [Value.cells,Nat.mod_one]
    rfl)
   simp only [Nat.add_zero] at AO;generalize Ob:(Builtin.zeroCells (Value.int .u64 0).cells (n+1)).toList=zz at *;refine ⟨w.setRow g (cs.toList.take k++zz++cs.toList.drop (k+zz.length)).toArray,fun ty c=> by simp [Builtin.clear_,run_underlying hu,hv,Ob,AO],⟨_,setRow_heap w g cs _ 22 _ h1,fun i x hx=> ?_⟩,(zcN.setRow _ _ _).grown⟩
   rw [List.getElem?_take] at hx
   split at hx
   ·rename_i QP
    have:=h2 i x hx;rw [List.getElem?_toArray,List.append_assoc,List.getElem?_append_left (by rw [List.length_take,Array.length_toList];omega),List.getElem?_take_of_lt QP,Array.getElem?_toList]
    exact this
   ·cases hx
structure CpS (g n k0:Nat) (xs:List Nat) (w0:World) (k k2:Nat) (cur:List Nat) (w:World):Prop where
 rw:zep w g cur
 len:cur.length=n
 tail:∀j,k≤j→cur[j]? =xs[j]?
 mem:∀x,x ∈ cur.take k↔x ∈ xs.take (k0+k2)
 grown:w0.grownBy w (some g)
theorem CpS.drewN {g n k0 k k2:Nat} {xs cur:List Nat} {w0 w:World} (h:CpS g n k0 xs w0 k k2 cur w) (q:Nat):CpS g n k0 xs w0 k k2 cur (w.drewN q):=
 ⟨h.rw.heap rfl,h.len,h.tail,h.mem,⟨h.grown.os,h.grown.tape,h.grown.output,h.grown.size,h.grown.block⟩⟩
theorem CpS.skip {g n k0 k k2:Nat} {xs cur:List Nat} {w0 w:World} (h:CpS g n k0 xs w0 k k2 cur w) (h2:1≤k0+k2) {x:Nat} (hx:xs[k0+k2]? =some x) (hy:xs[k0+k2 - 1]? =some x):CpS g n k0 xs w0 k (k2+1) cur w:=by
 refine ⟨h.rw,h.len,h.tail,fun z=> ?_,h.grown⟩;rw [h.mem,show k0+(k2+1)=k0+k2+1 by omega,List.take_add_one,hx]
 simp only [Option.toList_some,List.mem_append,List.mem_singleton]
 constructor
 ·exact fun h=> .inl h
 ·rintro (h | rfl)
  ·exact h
  ·exact zm (i:=k0+k2 - 1) (by rw [List.getElem?_take_of_lt (by omega)];exact hy)
theorem CpS.push {g n k0 k k2:Nat} {xs cur:List Nat} {w0 w:World} (h:CpS g n k0 xs w0 k k2 cur w) (hk:k < k0+k2) (hn:k0+k2 < n) {x:Nat} (hx:xs[k0+k2]? =some x):CpS g n k0 xs w0 (k+1) (k2+1) (cur.set k x) (w.setCell ⟨g,k,none⟩ (.int .u64 (x:Int))):=by
 have Du:k < cur.length:=by rw [h.len];omega
 obtain ⟨q1,q2⟩:=h.rw.set Du x;refine ⟨q1,by rw [List.length_set];exact h.len,fun j hj=> ?_,fun z=> ?_,h.grown.trans q2⟩
 ·rw [List.getElem?_set_ne (by omega)]
  exact h.tail j (by omega)
 ·have e:(cur.set k x).take (k+1)=cur.take k++ [x]:=by
   rw [List.take_add_one,List.getElem?_set_self Du,List.take_set_of_le zl]
   rfl
  rw [e,show k0+(k2+1)=k0+k2+1 by omega,List.take_add_one,hx]
  simp only [Option.toList_some,List.mem_append,List.mem_singleton,h.mem]
theorem ziE {g n c:Nat} {w:World} {xs:List Nat} (h:zep w g xs) (hn:xs.length=n) (BH:n≤1000000) (hc:n≤c):
 Calls Tryz.prog 76 #[.slice (some ⟨g,0,none⟩) n c] w fun e w'=> ∃k c' ys,e= .returned (.slice (some ⟨g,0,none⟩) k c')∧(ys.length=k∧k≤n)∧(∀x,x ∈ ys↔x ∈ xs)∧zep w' g ys∧w.grownBy w' (some g):=by
 by_cases h2:n < 2
 ·have z0:(n:Int) < 2:=by omega
  have H:=zh (zn h hn);clear h hn h2;go_enter Tryz.func76,Tryz.ntmps76;go_wp2_with fail;go_ret;exact ⟨n,c,xs,rfl,⟨H.out.2,zl⟩,fun x=> Iff.rfl,H.out.1,World.grownBy.refl _ _⟩
 ·have z0 :¬(n:Int) < 2:=by omega
  have H:=zh (zn h hn);clear h hn;go_enter Tryz.func76,Tryz.ntmps76;go_wp2_with fail
  go_loopw [3] (fun u wr=> ∃k:Nat,1≤k∧k≤n∧u= .int .i64 k∧zep wr g xs∧w.grownBy wr (some g)) (fun u _=> n - (intOf u).toNat)
  case atStart=> exact ⟨1,by omega,by omega,rfl,H.out.1,World.grownBy.refl _ _⟩
  case round=>
   obtain ⟨k,BY,G9,rfl,hR,hG⟩:=hrel;have HG:=zh (zn hR hG);clear hG
   by_cases hlt:k < n
   ·have Bb:(k:Int) < (n:Int):=by omega
    obtain ⟨p,rfl⟩:∃p,k=p+1:=⟨k - 1,by omega⟩
    obtain ⟨x,hx⟩:∃x,xs[p+1]? =some x:=⟨_,ze (by have:=H.out.2;omega)⟩
    obtain ⟨y,hy⟩:∃y,xs[p]? =some y:=⟨_,ze (by have:=H.out.2;omega)⟩
    have c0:=(hR.at hx).1;have c1:=(hR.at hy).1;have i0:(0:Int)≤((p+1:Nat):Int):=by omega
    have i1:(0:Int)≤(p:Int):=by omega
    have i2:(p:Int) < (n:Int):=by omega
    have i3:IntKind.i64.wrap (p:Int)=(p:Int):=zw _ (by omega)
    have i4:IntKind.i64.wrap (((p+1:Nat):Int) - 1)=(p:Int):=by rw [zw _ (by omega)];omega
    have HX:=zh (zn hx hy);clear hx hy
    by_cases B8:x=y
    ·have zz:((x:Int)==(y:Int))=true:=by rw [B8];simp
     have GB:¬c=p+1:=by omega
     have Ge:p+1≤c:=by omega
     have FX:p+1≤n:=by omega
     have RF:=zh B8;clear B8;go_wp2_with fail
     go_quiet (fail)
     go_wp2_with fail;have HS:=zh (show CpS g n (p+1) xs w (p+1) 1 xs (wr.drewN nq) from ⟨HG.out.1.heap rfl,H.out.2,fun _ _=> rfl,fun z=> by
          rw [List.take_add_one (i:=p+1),HX.out.1,RF.out];simp only [Option.toList_some,List.mem_append,List.mem_singleton]
          constructor
          ·exact fun h=> .inl h
          ·rintro (h | rfl)
           ·exact h
           ·exact zm (i:=p) (by rw [List.getElem?_take_of_lt (by omega)];exact HX.out.2),⟨HG.out.2.os,HG.out.2.tape,HG.out.2.output,HG.out.2.size,HG.out.2.block⟩⟩)
     clear c0 c1 i0 i1 i2 i3 i4 zz HG hR HX RF Bb;rename World=> wo;generalize hm:n - (p+1)=m at *
     go_loopw [3,5] (fun u3 u5 wr=> ∃(k k2:Nat) (cur:List Nat),u3= .int .i64 k∧u5= .int .i64 k2∧p+1≤k∧1≤k2∧k+1≤p+1+k2∧k2≤m∧CpS g n (p+1) xs w k k2 cur wr) (fun _ u5 _=> n - (intOf u5).toNat)
     case atStart=> exact ⟨p+1,1,xs,rfl,rfl,by omega,by omega,by omega,by omega,HS.out⟩
     case round=>
          obtain ⟨k,k2,cur,rfl,rfl,h1,h2,h3,h4,hC⟩:=hrel;have HC:=zh hC
          by_cases CC:k2 < m
          ·have Bb:(k2:Int) < (m:Int):=by omega
           obtain ⟨q,rfl⟩:∃q,k2=q+1:=⟨k2 - 1,by omega⟩
           obtain ⟨x2,Dw⟩:∃x2,xs[p+1+(q+1)]? =some x2:=⟨_,ze (by have:=H.out.2;omega)⟩
           obtain ⟨y2,LD⟩:∃y2,xs[p+1+q]? =some y2:=⟨_,ze (by have:=H.out.2;omega)⟩
           have c0:=(hC.rw.at ((hC.tail _ (by omega)).trans Dw)).1
           have c1:=(hC.rw.at ((hC.tail _ (by omega)).trans LD)).1
           have i0:(0:Int)≤((q+1:Nat):Int):=by omega
           have i1:(0:Int)≤(q:Int):=by omega
           have i2:(q:Int) < (m:Int):=by omega
           have i3:IntKind.i64.wrap (q:Int)=(q:Int):=zw _ (by omega)
           have HX:=zh (zn Dw LD);clear Dw LD
           by_cases B8:x2=y2
           ·have zz:((x2:Int)==(y2:Int))=true:=by rw [B8];simp
            have HN:=zh (HC.out.skip (x:=x2) (by omega) HX.out.1 (by rw [show p+1+(q+1) - 1=p+1+q by omega,B8];exact HX.out.2))
            clear B8 hC;go_wp2_with fail
            go_quiet (fail)
            go_wp2_with fail
            go_roundw
            case rel=> exact ⟨k,q+2,cur,rfl,by go_num,by omega,by omega,by omega,by omega,HN.out.drewN _⟩
            case measure=> simp [intOf];omega
           ·have zz:((x2:Int)==(y2:Int))=false:=by rw [beq_eq_false_iff_ne];omega
            have Du:k < cur.length:=by rw [hC.len];omega
            have cf:=(hC.rw.at (ze Du)).2;have ck:=(hC.rw.at (ze Du)).1;have i5:(k:Int) < (n:Int):=by omega
            have i6:(0:Int)≤(k:Int):=by omega
            clear B8 hC;go_wp2_with fail
            go_quiet (fail)
            have HN:=zh ((HC.out.drewN nq).push (x:=x2) (by omega) (by omega) HX.out.1)
            have cf':(wr.drewN nq).frozen? ⟨g,k,none⟩=false:=cf;have ck':(wr.drewN nq).cell? ⟨g,k,none⟩=some _:=ck;have c0':(wr.drewN nq).cell? ⟨g,p+1+(q+1),none⟩=some _:=c0;go_wp2_with fail
            go_roundw
            case rel=> exact ⟨k+1,q+2,_,by go_num,by go_num,by omega,by omega,by omega,by omega,HN.out⟩
            case measure=> simp [intOf];omega
          ·have hk2m:k2=m:=by omega
           have i5:¬(k2:Int) < (m:Int):=by omega
           have Th:k≤n:=by omega
           have PB:k≤c:=by omega
           have HM:Hid (∀x,x ∈ cur.take k↔x ∈ xs):=zh fun z=> by
              rw [HC.out.mem,zk (by have:=H.out.2;omega)]
           have KH:(cur.take k).length=k:=by rw [List.length_take,hC.len];omega
           by_cases GB:c=k
           ·obtain ⟨w9,aN,Nl,GF⟩:=hC.rw.clear (t:=51) Tryz.underlying51 zfo (k:=k) (n:=n - k) (by rw [hC.len];omega) 0 (.inl (by omega))
            have HF:=zh (zn Nl (zn (hC.grown.trans GF) KH));clear hC Nl GF hk2m KH;go_wp2_with fail;go_ret;exact ⟨k,⟨_,rfl⟩,_,⟨HF.out.2.2,Th⟩,HM.out,HF.out.1,HF.out.2.1⟩
           ·obtain ⟨w9,aN,Nl,GF⟩:=hC.rw.clear (t:=51) Tryz.underlying51 zfo (k:=k) (n:=n - k) (by rw [hC.len];omega) k (.inr rfl)
            have HF:=zh (zn Nl (zn (hC.grown.trans GF) KH));clear hC Nl GF hk2m KH;go_wp2_with fail;go_ret;exact ⟨k,⟨_,rfl⟩,_,⟨HF.out.2.2,Th⟩,HM.out,HF.out.1,HF.out.2.1⟩
    ·have zz:((x:Int)==(y:Int))=false:=by rw [beq_eq_false_iff_ne];omega
     clear B8;go_wp2_with fail
     go_quiet (fail)
     go_wp2_with fail
     go_roundw
     case rel=> exact ⟨p+2,by omega,by omega,by go_num,HG.out.1.heap rfl,⟨HG.out.2.os,HG.out.2.tape,HG.out.2.output,HG.out.2.size,HG.out.2.block⟩⟩
     case measure=> simp [intOf];omega
   ·obtain rfl:n=k:=by omega
    clear hR;go_wp2_with fail;go_ret;exact ⟨n,c,xs,rfl,⟨H.out.2,zl⟩,fun x=> Iff.rfl,HG.out.1,HG.out.2⟩
end
section
open Go.RowKit
def zhq (sw:Nat) (w:World):Prop:=∃(z:Int) (cs:Array Value) (ty:TypeId),w.heap[sw]? =some (.cells cs ty (0,0))∧cs[0]? =some (.int .i64 z)
theorem zhq.cell {sw:Nat} {w:World} (h:zhq sw w):∃z:Int,w.cell? ⟨sw,0,none⟩=some (.int .i64 z)∧w.frozen? ⟨sw,0,none⟩=false:=by
 obtain ⟨z,cs,ty,h1,h2⟩:=h;exact ⟨z,by simp [World.cell?,h1,h2],by simp [World.frozen?,h1]⟩
def zb7 (sw:Nat) (w w':World):Prop:=w.grownBy w' (some sw)∧zhq sw w'
theorem zb7.refl {sw:Nat} {w:World} (h:zhq sw w):zb7 sw w w:=⟨World.grownBy.refl _ _,h⟩
theorem zb7.trans {sw:Nat} {w w1 w2:World} (h:zb7 sw w w1) (h':zb7 sw w1 w2):zb7 sw w w2:=⟨h.1.trans h'.1,h'.2⟩
theorem zb7.drew {sw:Nat} {w w1:World} (h:zb7 sw w w1):zb7 sw w w1.drew:=⟨⟨h.1.os,h.1.tape,h.1.output,h.1.size,h.1.block⟩,h.2⟩
theorem zb7.drewN {sw:Nat} {w w1:World} (h:zb7 sw w w1) (q:Nat):zb7 sw w (w1.drewN q):=by
 induction q with
 | zero=> exact h
 | succ q ih=> exact ih.drew
theorem zb7.set {sw:Nat} {w w1:World} (h:zb7 sw w w1) (z:Int):zb7 sw w (w1.setCell ⟨sw,0,none⟩ (.int .i64 z)):=by
 obtain ⟨h1,y,cs,ty,h2,h3⟩:=h;have hl:0 < cs.size:=by
  rcases Nat.eq_zero_or_pos cs.size with h0 | h0
  ·simp [Array.getElem?_eq_none (by omega:cs.size≤0)] at h3
  ·exact h0
 exact ⟨h1.trans (zq w1 ⟨sw,0,none⟩ (.int .i64 z)),z,_,ty,heap_setCell_same w1 sw 0 cs ty (.int .i64 z) h2,by simp [hl]⟩
theorem zar.sw {g sw:Nat} {w0 w w':World} {xs0:List Nat} (h:zar g w0 xs0 w) (hs:w0.heap.size≤sw) (hg:g≠sw) (hb:w.grownBy w' (some sw)):zar g w0 xs0 w':=by
 have Fq:=h.glt;obtain ⟨xs,h1,⟨cs,h2,h4⟩,h3⟩:=h;refine ⟨xs,h1,⟨cs,(hb.block g Fq (by simp;omega)).trans h2,h4⟩,hb.os.trans h3.os,hb.tape.trans h3.tape,hb.output.trans h3.output,zs h3.size hb.size,fun j hj hn=> (hb.block j (zt hj h3.size) (by simp;omega)).trans (h3.block j hj hn)⟩
theorem zeh {g n c sw:Nat} {w0 w:World} {xs0:List Nat} (h:zar g w0 xs0 w) (hn:xs0.length=n) (hs:zhq sw w) (BF:g≠sw) (a b:Nat) (ha:a < n) (hb:b < n):
 Calls Tryz.prog 220 #[.slice (some ⟨g,0,none⟩) n c, .int .i64 (a:Int), .int .i64 (b:Int), .pointer (some ⟨sw,0,none⟩)] w fun e w'=> ∃x y:Nat,e= .returned (.tuple #[.int .i64 (x:Int), .int .i64 (y:Int)])∧(x=a∧y=b∨x=b∧y=a)∧zb7 sw w w':=by
 obtain ⟨x,hx,-⟩:=h.at a (by omega)
 obtain ⟨y,hy,-⟩:=h.at b (by omega)
 have a0:(0:Int)≤(a:Int):=by omega
 have a1:(a:Int) < (n:Int):=by omega
 have b0:(0:Int)≤(b:Int):=by omega
 have b1:(b:Int) < (n:Int):=by omega
 have HS:=zh (zb7.refl hs);clear h hn hs BF ha hb;go_enter Tryz.func220,Tryz.ntmps220;go_wp2_with fail
 go_quiet ((go_at_call 172;exact Calls.quiet_of_same (zaB _ _ _)))
 have Bl:=HS.out.drewN nq;generalize decide (y < x)=bl at *;clear hx hy;generalize w.drewN nq=wq at *;obtain ⟨z,hz,hf⟩:=Bl.2.cell;have Bm:=zh Bl;clear Bl
 cases bl with
 | true=>
   go_wp2_with fail;go_ret2;exact ⟨b,a,rfl,Or.inr ⟨rfl,rfl⟩,Bm.out.set _⟩
 | false=>
   go_wp2_with fail;go_ret2;exact ⟨a,b,rfl,Or.inl ⟨rfl,rfl⟩,Bm.out⟩
theorem zgk {g n c sw:Nat} {w0 w:World} {xs0:List Nat} (h:zar g w0 xs0 w) (hn:xs0.length=n) (hs:zhq sw w) (hw:w0.heap.size≤sw) (BF:g≠sw) (p q a b d:Nat) (ha:p≤a∧a < q) (hb:p≤b∧b < q) (hd:p≤d∧d < q) (hq:q≤n):
 Calls Tryz.prog 211 #[.slice (some ⟨g,0,none⟩) n c, .int .i64 (a:Int), .int .i64 (b:Int), .int .i64 (d:Int), .pointer (some ⟨sw,0,none⟩)] w fun e w'=> ∃x:Nat,e= .returned (.int .i64 (x:Int))∧p≤x∧x < q∧zb7 sw w w':=by
 have Od:=zh (zeh (c:=c) h hn hs BF a b (by omega) (by omega))
 have HH:=zh (zn h (zn hn (zn hw BF)));have HR:=zh (zn ha (zn hb (zn hd hq)));clear h hn hs hw BF ha hb hd hq;go_enter Tryz.func211,Tryz.ntmps211;go_wp2_with fail;refine Od.out.mono ?_;rintro e w1 ⟨x1,y1,rfl,B8,k1⟩;have LT:=zh (show (p≤x1∧x1 < q)∧(p≤y1∧y1 < q) by have:=HR.out;omega)
 have Lh:=zh k1;have JS:=zh (zeh (c:=c) (HH.out.1.sw HH.out.2.2.1 HH.out.2.2.2 k1.1) HH.out.2.1 k1.2 HH.out.2.2.2 y1 d (by have:=HR.out;have:=LT.out;omega) (by have:=HR.out;omega))
 clear k1 B8;go_wp2_with fail;refine JS.out.mono ?_;rintro e w2 ⟨x2,y2,rfl,B8,k2⟩;have AS:=zh (show (p≤x2∧x2 < q)∧(p≤y2∧y2 < q) by have:=HR.out;have:=LT.out;omega)
 have GZ:=zh (Lh.out.trans k2);have Oe:=zh (zeh (c:=c) (HH.out.1.sw HH.out.2.2.1 HH.out.2.2.2 GZ.out.1) HH.out.2.1 GZ.out.2 HH.out.2.2.2 x1 x2 (by have:=HR.out;have:=LT.out;omega) (by have:=HR.out;have:=AS.out;omega))
 clear k2 B8;go_wp2_with fail;refine Oe.out.mono ?_;rintro e w3 ⟨x3,y3,rfl,B8,k3⟩;have Nb:=zh (show (p≤x3∧x3 < q)∧(p≤y3∧y3 < q) by have:=LT.out;have:=AS.out;omega)
 have Wi:=zh (GZ.out.trans k3);clear k3 B8;go_wp2_with fail;go_ret;exact ⟨y3,rfl,Nb.out.2.1,Nb.out.2.2,Wi.out⟩
theorem zcB {g n c sw:Nat} {w0 w:World} {xs0:List Nat} (h:zar g w0 xs0 w) (hn:xs0.length=n) (BH:n≤1000000) (hs:zhq sw w) (hw:w0.heap.size≤sw) (BF:g≠sw) (p q a:Nat) (ha:p+1≤a∧a+1 < q) (hq:q≤n):
 Calls Tryz.prog 210 #[.slice (some ⟨g,0,none⟩) n c, .int .i64 (a:Int), .pointer (some ⟨sw,0,none⟩)] w fun e w'=> ∃x:Nat,e= .returned (.int .i64 (x:Int))∧p≤x∧x < q∧zb7 sw w w':=by
 obtain ⟨m,rfl⟩:∃m,a=m+1:=⟨a - 1,by omega⟩
 have Od:=zh (zgk (c:=c) h hn hs hw BF p q m (m+1) (m+1+1) (by omega) (by omega) (by omega) hq)
 have s1:IntKind.i64.wrap (((m+1:Nat):Int) - 1)=(m:Int):=by rw [zw _ (by omega)];omega
 have s2:IntKind.i64.wrap (((m+1:Nat):Int)+1)=((m+1+1:Nat):Int):=by rw [zw _ (by omega)];omega
 clear h hn hs hw BF ha hq;generalize m+1+1=m2 at *;generalize m+1=m1 at *;go_enter Tryz.func210,Tryz.ntmps210;go_wp2_with fail;refine Od.out.mono ?_;rintro e w1 ⟨x,rfl,h1,h2,h3⟩;have H3:=zh (zn h1 (zn h2 h3));clear h1 h2 h3;go_wp2_with fail;go_ret;exact ⟨x,rfl,H3.out⟩
theorem zjt {g n c:Nat} {w0 w:World} {xs0:List Nat} (h:zar g w0 xs0 w) (hn:xs0.length=n) (BH:n≤1000000) (a b:Nat) (Dh:a < b) (hb:b≤n):
 Calls Tryz.prog 170 #[.slice (some ⟨g,0,none⟩) n c, .int .i64 (a:Int), .int .i64 (b:Int)] w fun e w'=> e= .returned (.tuple #[])∧zar g w0 xs0 w':=by
 have H:=zh h;have HN:=zh (zn hn hb);obtain ⟨d,rfl⟩:∃d,b=d+1:=⟨b - 1,by omega⟩
 have s1:IntKind.i64.wrap (((d+1:Nat):Int) - 1)=(d:Int):=by rw [zw _ (by omega)];omega
 have yp:a≤d:=by omega
 obtain ⟨b',Gz⟩:∃b',b'=d+1:=⟨_,rfl⟩;have HN:=zh (show xs0.length=n∧d < n from ⟨HN.out.1,by have:=HN.out.2;omega⟩)
 rw [← Gz] at s1;rw [← Gz];clear h hn hb Dh Gz;go_enter Tryz.func170,Tryz.ntmps170;go_wp2_with fail
 go_loopw [6,7] (fun u6 u7 wr=> ∃i j:Nat,i≤j+1∧j≤d∧u6= .int .i64 i∧u7= .int .i64 j∧zar g w0 xs0 wr) (fun _ u7 _=> (intOf u7).toNat)
 case atStart=> exact ⟨a,d,by omega,by omega,rfl,rfl,H.out⟩
 case round=>
  obtain ⟨i,j,Fr,kM,rfl,rfl,hS⟩:=hrel;have HS:=zh hS;clear hS
  by_cases hlt:i < j
  ·obtain ⟨m,hm⟩:∃m,m+1=j:=⟨j - 1,by omega⟩
   have i0:(0:Int)≤(i:Int):=by omega
   have i1:(i:Int) < (n:Int):=by have:=HN.out;omega
   have i2:(0:Int)≤(j:Int):=by omega
   have i3:(j:Int) < (n:Int):=by have:=HN.out;omega
   have g0:(i:Int) < (j:Int):=by omega
   have s3:IntKind.i64.wrap ((i:Int)+1)=((i+1:Nat):Int):=by rw [zw _ (by omega)];omega
   have s4:IntKind.i64.wrap ((j:Int) - 1)=(m:Int):=by rw [zw _ (by omega)];omega
   obtain ⟨z0,z1,e0,e1,f0,f1,f2,e2,BS⟩:=HS.out.swap i j (by have:=HN.out;omega) (by have:=HN.out;omega)
   have Az:=zh BS;have HJ:=zh (zn hm (zn hlt kM));clear BS hm hlt kM Fr yp;go_wp2_with fail
   go_region_law fail
   all_goals
        go_wp2_with fail
        go_roundw
        case rel=> exact ⟨i+1,m,by have:=HJ.out;omega,by have:=HJ.out;omega,rfl,rfl,by first | exact Az.out | exact Az.out.drew | exact Az.out.drewN _⟩
        case measure=> have:=HJ.out;simp [intOf];omega
  ·have g0:¬((i:Int) < (j:Int)):=by omega
   go_wp2_with fail;go_end0;exact ⟨rfl,HS.out⟩
theorem zfc {g n c:Nat} {w0 w:World} {xs0:List Nat} (h:zar g w0 xs0 w) (hn:xs0.length=n) (BH:n≤1000000) (a b:Nat) (Dh:a+12 < b) (hb:b≤n):
 Calls Tryz.prog 169 #[.slice (some ⟨g,0,none⟩) n c, .int .i64 (a:Int), .int .i64 (b:Int)] w fun e w'=> ∃x y:Nat,e= .returned (.tuple #[.int .i64 (x:Int), .int .i64 (y:Int)])∧a≤x∧x < b∧zar g w0 xs0 w':=by
 have Fq:=h.glt;have AR:w0.heap.size≤w.heap.size:=by obtain ⟨_,_,_,h3⟩:=h;exact h3.size
 have hA:zar g w0 xs0 (w.alloc (.cells #[.int .i64 0] 3)):=h.heap (zr.alloc zl _);have hP:zhq w.heap.size (w.alloc (.cells #[.int .i64 0] 3)):=⟨0,_,_,heap_alloc_new w _,rfl⟩;have HB:=zh (zn hn (zn BH (zn AR (show g≠w.heap.size by omega))))
 have HW:=zh (zn hA (zb7.refl hP));obtain ⟨l,hl⟩:∃l,b=a+l:=⟨b - a,by omega⟩
 obtain ⟨q,hq⟩:∃q,q=l / 4:=⟨_,rfl⟩;obtain ⟨i,hi⟩:∃i,i=a+q:=⟨_,rfl⟩;obtain ⟨j,hj⟩:∃j,j=a+2 * q:=⟨_,rfl⟩;obtain ⟨k,hk⟩:∃k,k=a+3 * q:=⟨_,rfl⟩;have s0:IntKind.i64.wrap ((b:Int) - (a:Int))=(l:Int):=by rw [zw _ (by omega)];omega
 have l0:0≤(l:Int):=by omega
 have s1:(l:Int) / 4=(q:Int):=by omega
 have s2:IntKind.i64.wrap (q:Int)=(q:Int):=zw _ (by omega)
 have s3:IntKind.i64.wrap ((q:Int) * 2)=(q:Int) * 2:=zw _ (by omega)
 have s4:IntKind.i64.wrap ((q:Int) * 3)=(q:Int) * 3:=zw _ (by omega)
 have s5:IntKind.i64.wrap ((a:Int)+(q:Int))=(i:Int):=by rw [zw _ (by omega)];omega
 have s6:IntKind.i64.wrap ((a:Int)+(q:Int) * 2)=(j:Int):=by rw [zw _ (by omega)];omega
 have s7:IntKind.i64.wrap ((a:Int)+(q:Int) * 3)=(k:Int):=by rw [zw _ (by omega)];omega
 have g8:8≤(l:Int):=by omega
 have HI:=zh (show (a+1≤i∧i+1 < b)∧(a+1≤j∧j+1 < b)∧(a+1≤k∧k+1 < b)∧b≤n by omega)
 have Tn:((50:Int)≤(l:Int))∨¬((50:Int)≤(l:Int)):=Decidable.em _;clear h hn BH Dh hb Fq AR hA hP hl hq hi hj hk;go_enter Tryz.func169,Tryz.ntmps169;clear Tn
 go_upto_if 34 with fail
 generalize w.alloc (.cells #[.int .i64 0] 3)=wA at *;generalize w.heap.size=sw at *
 go_cut [10,11,12] from 34 to 43 (fun u10 u11 u12 wx=> ∃i j k:Nat,u10= .int .i64 i∧u11= .int .i64 j∧u12= .int .i64 k∧(a≤i∧i < b)∧(a≤j∧j < b)∧(a≤k∧k < b)∧zb7 sw wA wx)
 case first=>
  by_cases Tn:(50:Int)≤(l:Int)
  ·have Od:=zh (zcB (c:=c) (HW.out.1.sw HB.out.2.2.1 HB.out.2.2.2 HW.out.2.1) HB.out.1 HB.out.2.1 HW.out.2.2 HB.out.2.2.1 HB.out.2.2.2 a b i (by have:=HI.out;omega) (by have:=HI.out;omega))
   go_wp2_with fail;refine Od.out.mono ?_;rintro e w1 ⟨i1,rfl,Bb,FS,k1⟩;have Lh:=zh k1;have JS:=zh (zcB (c:=c) (HW.out.1.sw HB.out.2.2.1 HB.out.2.2.2 Lh.out.1) HB.out.1 HB.out.2.1 Lh.out.2 HB.out.2.2.1 HB.out.2.2.2 a b j (by have:=HI.out;omega) (by have:=HI.out;omega))
   have qL:=zh (zn Bb FS);clear k1 Bb FS;go_wp2_with fail;refine JS.out.mono ?_;rintro e w2 ⟨j1,rfl,EB,EC,k2⟩;have GZ:=zh (Lh.out.trans k2);have Oe:=zh (zcB (c:=c) (HW.out.1.sw HB.out.2.2.1 HB.out.2.2.2 GZ.out.1) HB.out.1 HB.out.2.1 GZ.out.2 HB.out.2.2.1 HB.out.2.2.2 a b k (by have:=HI.out;omega) (by have:=HI.out;omega))
   have M4:=zh (zn EB EC);clear k2 EB EC;go_wp2_with fail;refine Oe.out.mono ?_;rintro e w3 ⟨k1,rfl,BY,Cg,k3⟩;have Wi:=zh (GZ.out.trans k3);have qM:=zh (zn BY Cg);clear k3 BY Cg;go_wp2_with fail
   go_meet
   case rel=> exact ⟨i1,j1,k1,rfl,rfl,rfl,qL.out,M4.out,qM.out,Wi.out⟩
  ·go_wp2_with fail
   go_meet
   case rel=> exact ⟨i,j,k,rfl,rfl,rfl,by have:=HI.out;omega,by have:=HI.out;omega,by have:=HI.out;omega,HW.out.2⟩
 case rest=>
  obtain ⟨i2,j2,k2,rfl,rfl,rfl,hi,hj,hk,hK⟩:=hcut;have HK:=zh hK;have Od:=zh (zgk (c:=c) (HW.out.1.sw HB.out.2.2.1 HB.out.2.2.2 HK.out.1) HB.out.1 HK.out.2 HB.out.2.2.1 HB.out.2.2.2 a b i2 j2 k2 hi hj hk (by have:=HI.out;omega))
  clear hi hj hk hK;go_wp2_with fail;refine Od.out.mono ?_;rintro e w1 ⟨x,rfl,BB,Dw,k1⟩;have Lh:=zh (HK.out.trans k1);have HX:=zh (zn BB Dw);obtain ⟨z,hz,-⟩:=k1.2.cell;clear k1 BB Dw;have HE:=zh (HW.out.1.sw HB.out.2.2.1 HB.out.2.2.2 Lh.out.1)
  by_cases h0:z=0
  ·go_wp2_with fail;go_ret2;exact ⟨x,1,rfl,HX.out.1,HX.out.2,HE.out⟩
  ·by_cases LU:z=12
   ·go_wp2_with fail;go_ret2;exact ⟨x,2,rfl,HX.out.1,HX.out.2,HE.out⟩
   ·go_wp2_with fail;go_ret2;exact ⟨x,0,rfl,HX.out.1,HX.out.2,HE.out⟩
end
end Go.Proofs.YtaoceecfjlkmdaaGreat
