/- Lemmas of the walks, merged and pressed by press.py. Conditions: those of each theorem. -/
import Derived.Test.YtaoceecfjlkmdaaGreatM18
import Derived.Test.YtaoceecfjlkmdaaGreatM26
import Derived.Lib.Strings
import Derived.Lib.Slices
import Derived.Lib.Small
import Derived.Lib.Walk
import Derived.Lib.BitFns
import Derived.Laws.Bits64
import Derived.Sort.Row
import Derived.Laws.Bits64b
import Derived.Test.YtaoceecfjlkmdaaGreatM25
set_option maxRecDepth 100000
set_option maxHeartbeats 64000000
set_option linter.all false
namespace Go.Proofs.YtaoceecfjlkmdaaGreat
open Tryz
variable {xs0:List Nat} {c g n sw:Nat} {w w' w0:World}
section
open Go.RowKit
theorem zlO (x:Nat) (h0:0 < x) (h:x < 1000001):2 ^ Lib.bitLen x<=2 * x:=by
 induction x using Nat.strongRecOn with
 | _ x ih=>
   rw [Lib.bitLen_half x ud ud]
   by_cases h2:2<=x
   ·have:=ih (x / 2) ud ud ud;rw [Nat.pow_add]
    omega
   obtain rfl:x=1:=ud
   decide
theorem zpl (n:Nat) (hn:n<=1000000) (w:World):χ 176 #[υ n] w fun e w'=> e=ρ (ι (Lib.bitLen n:Nat))/\w'=w:=by
 have h:=zpm (n:Int) w ud ud
 rwa [Int.toNat_natCast] at h
theorem ze8 (n:Nat) (hn:n<=1000000) (w:World):χ 122 #[υ n] w fun e w'=> e=ρ (ι (Lib.bitLen n:Nat))/\w'=w:=by
 go_in
 go_wp2_with (first | (go_at_call 176;refine (zpl n hn _).mono ?_;rintro e w' ⟨rfl,rfl⟩))
 go_ret;exact ⟨rfl,rfl⟩
theorem zmS (n:Nat) (h0:0 < n) (hn:n<=1000000) (w:World):χ 208 #[↑n] w fun e w'=> ∃m:Nat,e=ρ (υ m)/\0 < m/\m<=2 * n/\w'=w:=by
 have hk:=zlO n h0 ud;have hp:=Nat.two_pow_pos (Lib.bitLen n);have Cg:Lib.bitLen n<=63:=by
  have:=Lib.bitLen_le n 63 ud ud
  omega
 have hw:IntKind.u64.wrap ((2:Int) ^ Lib.bitLen n)=((2 ^ Lib.bitLen n:Nat):Int):=by
  rw [IntKind.wrap_u64,show ((2:Int) ^ Lib.bitLen n)=((2 ^ Lib.bitLen n:Nat):Int) by push_cast;rfl]
  generalize (2:Nat) ^ Lib.bitLen n=p at hk
  omega
 have HK:=zh (zn hk hp);have HL:=zh (ze8 n hn w);generalize (2:Nat) ^ Lib.bitLen n=m at *;go_in
 go_wp2_with (first | (go_at_call 122;refine HL.out.mono ?_;rintro e w' ⟨rfl,rfl⟩))
 go_ret;exact ⟨m,rfl,HK.out.2,HK.out.1,rfl⟩
def Sx (sw:Nat) (w:World):Prop:=∃(X:Nat) (cs:Array Value) (ty:TypeId),X < 18446744073709551616/\w.heap[sw]? =some (.cells cs ty (0,0))/\cs[0]? =some (υ X)
theorem Sx.cell (h:Sx sw w):∃X:Nat,X < 18446744073709551616/\w sw=some (υ X)/\w.frozen? ↑sw=false:=by
 obtain ⟨z,cs,ty,h0,h1,h2⟩:=h;exact ⟨z,h0,by simp [World.cell?,h1,h2],by simp [World.frozen?,h1]⟩
theorem Sx.grown (h:Sx sw w) (hb:w.grownBy w' (some g)) (Aj:g≠sw):Sx sw w':=by
 obtain ⟨X,cs,ty,h0,h1,h2⟩:=h;exact ⟨X,cs,ty,h0,(hb.block sw (zg h1).1 (by simpa using fun e=> Aj e.symm)).trans h1,h2⟩
theorem Sx.set (h:Sx sw w) (X:Nat) (hX:X < 18446744073709551616):Sx sw (w.setCell ↑sw (υ X)):=by
 obtain ⟨Y,cs,ty,h0,h2,h3⟩:=h;have hl:0 < cs.size:=by
  rcases Nat.eq_zero_or_pos cs.size with h0 | h0
  ·simp [Array.getElem?_eq_none (by omega:cs.size<=0)] at h3
  exact h0
 exact ⟨X,_,ty,hX,heap_setCell_same w sw 0 cs ty (υ X) h2,by simp [hl]⟩
theorem zhc (w:World) (blk off:Nat) (v v':Value):(w.setCell (blk off ()) v).setCell (blk off ()) v'=w.setCell (blk off ()) v':=by
 rw [Go.Sort.setCell_eq,Go.Sort.setCell_eq,Go.Sort.mapBlock_mapBlock,Go.Sort.setCell_eq]
 congr 1
 funext c
 simp
theorem zny (sw:Nat) (w:World) (h:Sx sw w):χ 209 #[π (some ↑sw)] w fun e w'=> ∃X:Nat,X < 18446744073709551616/\e=ρ (υ X)/\Sx sw w'/\w.grownBy w' (some sw):=by
 have HX:=zh h;obtain ⟨X,hX,hc,hf⟩:=h.cell;obtain ⟨A,hA⟩:∃A:Nat,A=X ^^^ (X * 8192 % 18446744073709551616):=⟨_,rfl⟩;obtain ⟨B,hB⟩:∃B:Nat,B=A ^^^ (A / 128):=⟨_,rfl⟩;obtain ⟨C,hC⟩:∃C:Nat,C=B ^^^ (B * 131072 % 18446744073709551616):=⟨_,rfl⟩;have lA:A < 18446744073709551616:=by rw [hA];exact Nat.xor_lt_two_pow (n:=64) ud ud
 have lB:B < 18446744073709551616:=by rw [hB];exact Nat.xor_lt_two_pow (n:=64) ud ud
 have lC:C < 18446744073709551616:=by rw [hC];exact Nat.xor_lt_two_pow (n:=64) ud ud
 have e1:bits .xor .u64 (X:Int) (IntKind.u64.wrap ((X:Int) * 8192))=(A:Int):=by
  rw [IntKind.wrap_u64,show ((X:Int) * 8192 % 18446744073709551616)=((X * 8192 % 18446744073709551616:Nat):Int) by omega,bits_xor_u64_nat _ _ hX ud,hA]
 have e2:bits .xor .u64 (A:Int) ((A:Int) / 128)=(B:Int):=by
  rw [show ((A:Int) / 128)=((A / 128:Nat):Int) by omega,bits_xor_u64_nat _ _ lA ud,hB]
 have e3:bits .xor .u64 (B:Int) (IntKind.u64.wrap ((B:Int) * 131072))=(C:Int):=by
  rw [IntKind.wrap_u64,show ((B:Int) * 131072 % 18446744073709551616)=((B * 131072 % 18446744073709551616:Nat):Int) by omega,bits_xor_u64_nat _ _ lB ud,hC]
 clear hA hB hC h;have HS:=zh (HX.out.set C lC);have GT:∀v v',(w.setCell ↑sw v).setCell ↑sw v'=w.setCell ↑sw v':=zhc w sw 0;go_in
 go_wp2
 go_region
 all_goals go_wp2
 all_goals go_region
 all_goals go_wp2
 all_goals go_region
 all_goals go_wp2
 go_ret;exact ⟨C,lC,rfl,HS.out,by have:=zq w ↑sw (υ C);exact ⟨this.os,this.tape,this.output,this.size,this.block⟩⟩
end
section
open Go.RowKit
def zkr (g sw:Nat) (w0:World) (xs0:List Nat) (w:World):Prop:=zar g w0 xs0 w/\Sx sw w
theorem zkr.drew (h:zkr g sw w0 xs0 w):zkr g sw w0 xs0 w.drew:=⟨h.1.drew,h.2⟩
theorem zd3 (h:zar g w0 xs0 w) (hn:xs0.length=n) (BH:n<=1000000) (a b:Nat) (Dh:a+12 < b) (hb:b<=n):
 χ 168 #[σ (some ↑g) n c,↑a,↑b] w fun e w'=> e=ρ (.tuple #[])/\zar g w0 xs0 w':=by
 have Fq:=h.glt;have AR:↑w0<=w.heap.size:=by obtain ⟨_,_,_,h3⟩:=h;exact h3.size
 obtain ⟨l,hl⟩:∃l,b=a+l:=⟨b - a,ud⟩;obtain ⟨q,hq⟩:∃q,q=l / 4:=⟨_,rfl⟩;obtain ⟨j,hj⟩:∃j,j+1=a+2 * q:=⟨a+2 * q - 1,ud⟩;have hA:zar g w0 xs0 (w.alloc (.cells #[υ l] 316)):=h.heap (zr.alloc zl _);have hP:Sx ↑w (w.alloc (.cells #[υ l] 316)):=⟨l,_,_,ud,heap_alloc_new w _,rfl⟩;have HB:=zh (zn hn (zn AR (show g≠↑w by omega)))
 have HW:=zh (zn hA hP);have I2:=zh (zmS l ud ud (w.alloc (.cells #[υ l] 316)));have s0:IntKind.i64.wrap ((b:Int) - (a:Int))=(l:Int):=by rw [zw _ ud];omega
 have l0:0<=(l:Int):=ud;have s00:IntKind.u64.wrap (l:Int)=(l:Int):=by rw [IntKind.wrap_u64];omega
 have s1:(l:Int) / 4=(q:Int):=ud;have s2:IntKind.i64.wrap (q:Int)=(q:Int):=zw _ ud;have s3:IntKind.i64.wrap ((q:Int) * 2)=(q:Int) * 2:=zw _ ud;have s6:IntKind.i64.wrap ((a:Int)+(q:Int) * 2)=((j+1:Nat):Int):=by rw [zw _ ud];omega
 have s7:IntKind.i64.wrap (((j+1:Nat):Int) - 1)=(j:Int):=by rw [zw _ ud];omega
 have s8:IntKind.i64.wrap (((j+1:Nat):Int)+1)=((j+2:Nat):Int):=by rw [zw _ ud];omega
 have g8:8<=(l:Int):=ud;have HI:=zh (show 12 < l/\a+l=b/\b<=n/\j+3 < b/\n<=1000000 by omega)
 clear h hn BH Dh hb Fq AR hA hP hl hq hj;obtain ⟨j1,EB⟩:∃j1,j1=j+1:=⟨_,rfl⟩;obtain ⟨j2,EC⟩:∃j2,j2=j+2:=⟨_,rfl⟩;rw [<- EB] at s6 s7 s8;rw [<- EC] at s8;have HJ:=zh (zn EB EC);clear EB EC;go_in;go_upto_region 3 with fail;generalize w.alloc (.cells #[υ l] 316)=wA at *;generalize ↑w=sw at *;go_wp2_with fail;refine I2.out.mono ?_;rintro e w1 ⟨m,rfl,DT,CT,rfl⟩;have HM:=zh (zn DT CT);have sm:IntKind.u64.wrap ((m:Int) - 1)=((m - 1:Nat):Int):=by rw [IntKind.wrap_u64];have:=HI.out;omega
 clear DT CT;obtain ⟨m',Lu⟩:∃m',m'=m - 1:=⟨_,rfl⟩;rw [<- Lu] at sm;have ZL:=zh Lu;clear Lu;go_wp2_with fail
 go_loopw [9] (fun u9 wr=> ∃i:Nat,i<=j+3/\u9= ι i/\zkr g sw w0 xs0 wr) (fun u9 _=> j+4 - (intOf u9).toNat)
 case atStart=> exact ⟨j,ud,rfl,HW.out⟩
 case round=>
  obtain ⟨i,hi,rfl,hS⟩:=hrel;have HS:=zh hS;clear hS
  by_cases hlt:i<=j2
  ·have g0:(i:Int)<=(j2:Int):=ud;have si:IntKind.i64.wrap ((i:Int)+1)=((i+1:Nat):Int):=by rw [zw _ uy];omega
   have HC:=zh (zny sw wr HS.out.2);have HL:=zh hlt;clear hlt;go_wp2_with fail;refine HC.out.mono ?_;rintro e w2 ⟨X,hX,rfl,K7,BN⟩;have Bl:=zh (show zkr g sw w0 xs0 w2 from ⟨HS.out.1.sw HB.out.2.1 HB.out.2.2 BN,K7⟩);clear K7 BN;obtain ⟨y,hy⟩:∃y,y=X &&& m':=⟨_,rfl⟩;have qw:y < 2 * l:=by
        have h1:X &&& m'<=m':=Nat.and_le_right;have:=HM.out;have:=ZL.out
        omega
   have sa:bits .and .u64 (X:Int) (m':Int)=(y:Int):=by
        rw [bits_and_u64_nat _ _ hX (by have:=HM.out;have:=ZL.out;have:=HI.out;omega),hy]
   have sc:IntKind.i64.wrap (y:Int)=(y:Int):=zw _ uy;have HY:=zh qw;clear hy qw hX
   go_upto_if 43 with fail
   go_cut [10] from 43 to 46 (fun u10 wx=> ∃o:Nat,o < l/\u10= ι o/\wx=w2)
   case first=>
        by_cases JH:l<=y
        ·have g1:(l:Int)<=(y:Int):=ud;have se:IntKind.i64.wrap ((y:Int) - (l:Int))=((y - l:Nat):Int):=by rw [zw _ (by have:=HI.out;have:=HY.out;omega)];omega
         go_wp2_with fail
         go_meet
         case rel=> exact ⟨y - l,by have:=HY.out;omega,rfl,rfl⟩
        have g1:¬(l:Int)<=(y:Int):=ud;go_wp2_with fail
        go_meet
        case rel=> exact ⟨y,ud,rfl,rfl⟩
   case rest=>
        obtain ⟨o,ho,rfl,rfl⟩:=hcut;obtain ⟨p,hp⟩:∃p,p=a+o:=⟨_,rfl⟩;have t1:IntKind.i64.wrap ((a:Int)+(o:Int))=(p:Int):=by rw [zw _ uy];omega
        have i0:(0:Int)<=(i:Int):=ud;have i1:(i:Int) < (n:Int):=by have:=HI.out;have:=HL.out;have:=HJ.out;omega
        have i2:(0:Int)<=(p:Int):=ud;have i3:(p:Int) < (n:Int):=uy;obtain ⟨z0,z1,e0,e1,f0,f1,f2,e2,BS⟩:=Bl.out.1.swap i p (by have:=HB.out.1;have:=HI.out;have:=HL.out;have:=HJ.out;omega) (by have:=HB.out.1;have:=HI.out;omega)
        have Az:=zh (show zkr g sw w0 xs0 _ from ⟨BS,Bl.out.2.grown ((zq wc (g i ()) (υ z1)).trans (zq (wc.setCell (g i ()) (υ z1)) (g p ()) (υ z0))) HB.out.2.2⟩);clear BS hp ho;go_wp2_with fail
        go_region_law fail
        all_goals
         go_wp2_with fail
         go_roundw
         case rel=> exact ⟨i+1,by have:=HL.out;have:=HJ.out;omega,rfl,ul⟩
         case measure=> have:=HL.out;have:=HJ.out;simp [intOf];omega
  have g0:¬(i:Int)<=(j2:Int):=ud
  go_wp2;go_end0;exact ⟨rfl,HS.out.1⟩
end
section
open Go.RowKit
def zoS (e:Ending):Prop:=∃r:Bool,e=ρ (.bool r)
theorem zfU (h:zar g w0 xs0 w) (hn:xs0.length=n) (BH:n<=1000000) (a b:Nat) (Dh:a+12 < b) (hb:b<=n):
 χ 171 #[σ (some ↑g) n c,↑a,↑b] w fun e w'=> zoS e/\zar g w0 xs0 w':=by
 have H:=zh h;have HB:=zh (zn hn (zn BH (zn Dh hb)));have s0:IntKind.i64.wrap ((a:Int)+1)=((a+1:Nat):Int):=by rw [zw _ ud];omega
 obtain ⟨l,hl⟩:∃l,b=a+l:=⟨b - a,ud⟩;have sl:IntKind.i64.wrap ((b:Int) - (a:Int))=(l:Int):=by rw [zw _ ud];omega
 have HL:=zh hl;clear h hn BH Dh hb hl;obtain ⟨a1,Kh⟩:∃a1,a1=a+1:=⟨_,rfl⟩;rw [<- Kh] at s0;have HA:=zh Kh;clear Kh;go_in;go_wp2_with fail
 go_loopw [7,8,9,10] (fun u7 u8 _ _ wr=> ∃i s:Nat,a+1<=i/\i<=b/\s<=5/\u7= ι i/\u8= ι s/\zar g w0 xs0 wr) (fun _ u8 _ _ _=> 5 - (intOf u8).toNat)
 case atStart=> exact ⟨a1,0,by have:=HA.out;omega,by have:=HA.out;have:=HB.out;omega,ud,rfl,rfl,H.out⟩
 case round =>
  obtain ⟨i,s,Bb,FS,hs,rfl,rfl,hS⟩:=hrel;have HS:=zh hS;have HI:=zh (zn Bb FS);clear hS Bb FS s0
  by_cases NZ:s < 5
  ·have g0:(s:Int) < 5:=ud;have ss:IntKind.i64.wrap ((s:Int)+1)=((s+1:Nat):Int):=by rw [zw _ ud];omega
   rename World=> wo
   go_upto_block 2 with fail
   go_cut [7] from 17 to 34 (fun u7 wx=> ∃k:Nat,a+1<=k/\k<=b/\u7= ι k/\zar g w0 xs0 wx)
   case first=>
        go_wp2_with fail
        go_loopw [7] (fun u7 wr=> ∃k:Nat,a+1<=k/\k<=b/\u7= ι k/\zar g w0 xs0 wr) (fun u7 _=> b - (intOf u7).toNat)
        case atStart=> exact ⟨i,HI.out.1,HI.out.2,rfl,HS.out⟩
        case round=>
         obtain ⟨k,BY,Cg,rfl,hS⟩:=hrel;have Bl:=zh hS;clear hS
         by_cases ED:k < b
         ·obtain ⟨m,hm⟩:∃m,m+1=k:=⟨k - 1,ud⟩;obtain ⟨x,hx,-⟩:=Bl.out.at k uq;obtain ⟨y,hy,-⟩:=Bl.out.at m uq;have sm:IntKind.i64.wrap ((k:Int) - 1)=(m:Int):=by rw [zw _ uq];omega
          have sk:IntKind.i64.wrap ((k:Int)+1)=((k+1:Nat):Int):=by rw [zw _ uq];omega
          have b0:(0:Int)<=(m:Int):=ud;have b1:(m:Int) < (n:Int):=uq;have b2:(0:Int)<=(k:Int):=ud;have b3:(k:Int) < (n:Int):=uq;have b4:(k:Int) < (b:Int):=ud;have HK:=zh (zn BY ED);clear hm BY Cg ED;go_wp2_with fail
          go_quiet ((go_at_call 172;exact Calls.quiet_of_same (zaB _ _ _)))
          have Bm:=zh (Bl.out.drewN nq);generalize decide (x < y)=bl at *;generalize wr.drewN nq=wq at *;clear hx hy
          cases bl with
          | true=>
            go_wp2_with fail
            go_meet
            case rel=> exact ⟨k,HK.out.1,uak,rfl,Bm.out⟩
          | false=>
            go_wp2_with fail
            go_roundw
            case rel=> exact ⟨k+1,uak,uak,rfl,Bm.out⟩
            case measure=> have:=HK.out;simp [intOf];omega
         have b4:¬(k:Int) < (b:Int):=ud;go_wp2_with fail
         go_quiet (fail)
         have Bm:=zh (Bl.out.drewN nq);go_wp2_with fail
         go_meet
         case rel=> exact ⟨k,BY,Cg,rfl,Bm.out⟩
   case rest =>
        obtain ⟨k,BY,Cg,rfl,hS⟩:=hcut;have Bl:=zh hS;have HK:=zh (zn BY Cg);clear hS BY Cg
        by_cases ED:k=b
        ·have Te:(k:Int)=(b:Int):=ud;clear ED;go_wp2;go_ret;exact ⟨⟨true,rfl⟩,Bl.out⟩
        have Te :¬(k:Int)=(b:Int):=ud;have ag:((k:Int)==(b:Int))=false:=by simpa using Te
        by_cases vM:l < 50
        ·have WT:(l:Int) < 50:=ud
         go_wp2;go_ret;exact ⟨⟨false,rfl⟩,Bl.out⟩
        have WT :¬(l:Int) < 50:=ud;obtain ⟨m,hm⟩:∃m,m+1=k:=⟨k - 1,uak⟩;have GZ:=zh (show m+1=k/\a<=m/\k < b by have:=HK.out;omega)
        have sm:IntKind.i64.wrap ((k:Int) - 1)=(m:Int):=by rw [zw _ uT];omega
        have sk:IntKind.i64.wrap ((k:Int)+1)=((k+1:Nat):Int):=by rw [zw _ uT];omega
        have b0:(0:Int)<=(m:Int):=ud;have b1:(m:Int) < (n:Int):=by have:=HB.out;have:=GZ.out;omega
        have b2:(0:Int)<=(k:Int):=ud;have b3:(k:Int) < (n:Int):=by have:=HB.out;have:=GZ.out;omega
        obtain ⟨d1,Cs⟩:∃d1,k=a+d1:=⟨k - a,by have:=GZ.out;omega⟩
        have sd1:IntKind.i64.wrap ((k:Int) - (a:Int))=(d1:Int):=by rw [zw _ uT];omega
        obtain ⟨d2,CP⟩:∃d2,b=k+d2:=⟨b - k,by have:=GZ.out;omega⟩
        have sd2:IntKind.i64.wrap ((b:Int) - (k:Int))=(d2:Int):=by rw [zw _ uT];omega
        clear hm ED vM Cs CP;obtain ⟨k1,BY⟩:∃k1,k1=k+1:=⟨_,rfl⟩;rw [<- BY] at sk;have Lh:=zh BY;clear BY;obtain ⟨z0,z1,e0,e1,f0,f1,f2,e2,BS⟩:=Bl.out.swap k m (by have:=HB.out;have:=GZ.out;omega) (by have:=HB.out;have:=GZ.out;omega)
        have Az:=zh BS;clear BS;go_upto_region 11 with fail
        go_cut [] from 42 to 57 (fun wx=> zar g w0 xs0 wx)
        case first=>
         go_region_law fail
         all_goals
           go_wp2_with fail
           go_meet
           case rel=> exact ul
        case rest =>
         have B9:=zh hcut;clear hcut e0 e1 f0 f1 f2 e2 Az;rename World=> w5
         go_upto_if 61 with fail
         go_cut [9] from 61 to 94 (fun _ wx=> zar g w0 xs0 wx)
         case first =>
           by_cases h2:2<=d1
           ·have Lp:(2:Int)<=(d1:Int):=ud;go_wp2_with fail
            go_loopw [9] (fun u9 wr=> ∃j:Nat,j < n/\u9= ι j/\zar g w0 xs0 wr) (fun u9 _=> (intOf u9).toNat)
            case atStart=> exact ⟨m,by have:=HB.out;have:=GZ.out;omega,rfl,B9.out⟩
            case round=>
                 obtain ⟨j,hj,rfl,hS⟩:=hrel;have Dt:=zh hS;clear hS
                 by_cases EB:1<=j
                 ·obtain ⟨q,hq⟩:∃q,q+1=j:=⟨j - 1,ud⟩;obtain ⟨x,hx,-⟩:=Dt.out.at j uq;obtain ⟨y,hy,-⟩:=Dt.out.at q uq;have t1:IntKind.i64.wrap ((j:Int) - 1)=(q:Int):=by rw [zw _ uq];omega
                  have c0:(0:Int)<=(q:Int):=ud;have c1:(q:Int) < (n:Int):=ud;have c2:(0:Int)<=(j:Int):=ud;have c3:(j:Int) < (n:Int):=ud;have c4:(1:Int)<=(j:Int):=ud;have HQ:=zh (zn hq hj);clear hq hj EB;go_wp2_with fail
                  go_quiet ((go_at_call 172;exact Calls.quiet_of_same (zaB _ _ _)))
                  have Hs:=Dt.out.drewN nq;generalize decide (x < y)=bl at *;obtain ⟨z0,z1,e0,e1,f0,f1,f2,e2,BS⟩:=Hs.swap j q uU uU;have Az:=zh BS;have G1:=zh Hs;clear BS Hs hx hy;generalize wr.drewN nq=wq at *
                  cases bl with
                  | false=>
                    go_wp2_with fail
                    go_meet
                    case rel=> exact G1.out
                  | true=>
                    go_wp2_with fail
                    go_region_law fail
                    all_goals
                      go_wp2_with fail
                      go_roundw
                      case rel=> exact ⟨q,by have:=HQ.out;omega,rfl,ul⟩
                      case measure=> have:=HQ.out;simp [intOf];omega
                 have c4:¬(1:Int)<=(j:Int):=ud;go_wp2_with fail
                 go_meet
                 case rel=> exact Dt.out
           have Lp:¬(2:Int)<=(d1:Int):=ud;go_wp2_with fail
           go_meet
           case rel=> exact B9.out
         case rest=>
           have UJ:=zh hcut;clear hcut;rename World=> w8
           by_cases h2:2<=d2
           ·have Lp:(2:Int)<=(d2:Int):=ud;go_wp2_with fail
            go_loopw [10] (fun u10 wr=> ∃j:Nat,1<=j/\j<=b/\u10= ι j/\zar g w0 xs0 wr) (fun u10 _=> b - (intOf u10).toNat)
            case atStart=> exact ⟨k1,by have:=Lh.out;omega,by have:=Lh.out;have:=GZ.out;omega,rfl,UJ.out⟩
            case round=>
                 obtain ⟨j,MA,hj,rfl,hS⟩:=hrel;have Dt:=zh hS;clear hS
                 by_cases EB:j < b
                 ·obtain ⟨q,hq⟩:∃q,q+1=j:=⟨j - 1,ud⟩;obtain ⟨x,hx,-⟩:=Dt.out.at j uq;obtain ⟨y,hy,-⟩:=Dt.out.at q uq;have t1:IntKind.i64.wrap ((j:Int) - 1)=(q:Int):=by rw [zw _ uq];omega
                  have t2:IntKind.i64.wrap ((j:Int)+1)=((j+1:Nat):Int):=by rw [zw _ uq];omega
                  have c0:(0:Int)<=(q:Int):=ud;have c1:(q:Int) < (n:Int):=uq;have c2:(0:Int)<=(j:Int):=ud;have c3:(j:Int) < (n:Int):=uq;have c4:(j:Int) < (b:Int):=ud;have HQ:=zh (zn hq EB);clear hq hj MA EB;go_wp2_with fail
                  go_quiet ((go_at_call 172;exact Calls.quiet_of_same (zaB _ _ _)))
                  have Hs:=Dt.out.drewN nq;generalize decide (x < y)=bl at *;obtain ⟨z0,z1,e0,e1,f0,f1,f2,e2,BS⟩:=Hs.swap j q uU uU;have Az:=zh BS;have G1:=zh Hs;clear BS Hs hx hy;generalize wr.drewN nq=wq at *
                  cases bl with
                  | false=>
                    go_wp2_with fail
                    go_roundw
                    case rel=> exact ⟨k,s+1,HK.out.1,HK.out.2,ud,rfl,rfl,G1.out⟩
                    case measure=> simp [intOf];omega
                  | true=>
                    go_wp2_with fail
                    go_region_law fail
                    all_goals
                      go_wp2_with fail
                      go_roundw
                      case rel=> exact ⟨j+1,ud,by have:=HQ.out;omega,rfl,ul⟩
                      case measure=> have:=HQ.out;simp [intOf];omega
                 have c4:¬(j:Int) < (b:Int):=ud;go_wp2_with fail
                 go_roundw
                 case rel=> exact ⟨k,s+1,HK.out.1,HK.out.2,ud,rfl,rfl,Dt.out⟩
                 case measure=> simp [intOf];omega
           have Lp:¬(2:Int)<=(d2:Int):=ud;go_wp2_with fail
           go_roundw
           case rel=> exact ⟨k,s+1,HK.out.1,HK.out.2,ud,rfl,rfl,UJ.out⟩
           case measure=> simp [intOf];omega
  have g0:¬(s:Int) < 5:=ud
  go_wp2;go_ret;exact ⟨⟨false,rfl⟩,HS.out⟩
end
section
open Go.RowKit
def zpI (a b:Nat) (e:Ending):Prop:=∃(x:Nat) (r:Bool),e=ρ (.tuple #[↑x, .bool r])/\a<=x/\x < b
def zoX (a b:Nat) (e:Ending):Prop:=∃x:Nat,e=ρ ↑x/\a < x/\x<=b
theorem zdR (h:zar g w0 xs0 w) (hn:xs0.length=n) (BH:n<=1000000) (a b p:Nat) (Dh:a+1 < b) (hb:b<=n) (DJ:a<=p) (MK:p < b):
 χ 173 #[σ (some ↑g) n c,↑a,↑b,↑p] w fun e w'=> zoX a b e/\zar g w0 xs0 w':=by
 have H:=zh h;have HB:=zh (zn hn (zn BH (zn Dh (zn hb (zn DJ MK)))));obtain ⟨a1,Kh⟩:∃a1,a1=a+1:=⟨_,rfl⟩;obtain ⟨b1,Aa⟩:∃b1,b1+1=b:=⟨b - 1,ud⟩;have sa:IntKind.i64.wrap ((a:Int)+1)=(a1:Int):=by rw [zw _ ud];omega
 have sb:IntKind.i64.wrap ((b:Int) - 1)=(b1:Int):=by rw [zw _ ud];omega
 have HI:=zh (show a+1<=a1/\a1<=b/\a<=b1/\b1 < b by omega)
 clear h hn BH Dh hb DJ MK Kh Aa;have q0:(0:Int)<=(a:Int):=ud;have q1:(a:Int) < (n:Int):=uq;have q2:(0:Int)<=(p:Int):=ud;have q3:(p:Int) < (n:Int):=uq
 go_in;obtain ⟨z0,z1,e0,e1,f0,f1,f2,e2,BS⟩:=H.out.swap a p uq uq
 have Az:=zh BS;clear BS;go_upto_region 1 with fail
 go_cut [] from 11 to 24 (fun wx=> zar g w0 xs0 wx)
 case first=>
  go_region_law fail
  all_goals
   go_wp2_with fail
   go_meet
   case rel=> exact ul
 have Dx:=zh hcut;clear hcut e0 e1 f0 f1 f2 e2 Az;go_wp2_with fail
 go_loopw [9,10] (fun u9 u10 wr=> ∃i j:Nat,(a+1<=i/\i<=b/\a<=j/\j < b)/\u9= ι i/\u10= ι j/\zar g w0 xs0 wr) (fun u9 u10 _=> (intOf u10).toNat+1 - (intOf u9).toNat)
 case atStart=> exact ⟨a1,b1,HI.out,rfl,rfl,Dx.out⟩
 case round=>
  obtain ⟨i,j,Fr,rfl,rfl,hS⟩:=hrel;have FA:=zh Fr;have Bl:=zh hS;clear hS Fr sa sb;rename World=> woHS3
  go_upto_block 2 with fail
  go_cut [9] from 29 to 45 (fun u wx=> ∃K:Nat,(i<=K/\K<=b)/\u= ι K/\zar g w0 xs0 wx)
  case first=>
   go_wp2_with fail
   go_loopw [9] (fun u wr=> ∃K:Nat,(i<=K/\K<=b)/\u= ι K/\zar g w0 xs0 wr) (fun u _=> b - (intOf u).toNat)
   case atStart=> exact ⟨i,(by have:=FA.out;omega),rfl,Bl.out⟩
   case round=>
        obtain ⟨k,⟨BY,Cg⟩,rfl,hS⟩:=hrel;have Dz:=zh hS;clear hS
        by_cases Ga:k<=j
        ·have sk:IntKind.i64.wrap ((k:Int)+1)=((k+1:Nat):Int):=by rw [zw _ uC];omega
         obtain ⟨x,hx,-⟩:=Dz.out.at k uC;obtain ⟨y,hy,-⟩:=Dz.out.at a uC;have d0:(0:Int)<=(a:Int):=ud;have d1:(a:Int) < (n:Int):=uq;have d2:(0:Int)<=(k:Int):=ud;have d3:(k:Int) < (n:Int):=uC;have d4:(k:Int)<=(j:Int):=ud;have HK:=zh (zn BY (zn Cg Ga));clear BY Cg Ga;go_wp2_with fail
         go_quiet ((go_at_call 172;exact Calls.quiet_of_same (zaB _ _ _)))
         have Bm:=zh (Dz.out.drewN nq);generalize decide (y < x)=bl at *;generalize wr.drewN nq=wq at *;clear hx hy
         cases bl with
         | true=>
           go_wp2_with fail
           go_meet
           case rel=> exact ⟨k,uak,rfl,Bm.out⟩
         | false=>
           go_wp2_with fail
           go_roundw
           case rel=> exact ⟨k+1,by have:=HK.out;have:=FA.out;omega,rfl,Bm.out⟩
           case measure=> have:=HK.out;have:=FA.out;simp [intOf];omega
        have d4:¬(k:Int)<=(j:Int):=ud;go_wp2_with fail
        go_quiet (fail)
        have Bm:=zh (Dz.out.drewN nq);go_wp2_with fail
        go_meet
        case rel=> exact ⟨k,ud,rfl,Bm.out⟩
  obtain ⟨i2,FS,rfl,Gw⟩:=hcut;have UM:=zh FS;have Bm:=zh Gw;clear FS Gw;have Cp:=zh (show a+1<=i2/\i2<=b/\a<=j/\j < b by have:=FA.out;have:=UM.out;omega)
  rename World=> woHS5
  go_upto_block 4 with fail
  go_cut [10] from 46 to 61 (fun u wx=> ∃K:Nat,(a<=K/\K<=j)/\u= ι K/\zar g w0 xs0 wx)
  case first=>
   go_wp2_with fail
   go_loopw [10] (fun u wr=> ∃K:Nat,(a<=K/\K<=j)/\u= ι K/\zar g w0 xs0 wr) (fun u _=> (intOf u).toNat)
   case atStart=> exact ⟨j,(by have:=Cp.out;omega),rfl,Bm.out⟩
   case round=>
        obtain ⟨k,⟨BY,Cg⟩,rfl,hS⟩:=hrel;have Dz:=zh hS;clear hS
        by_cases Ga:i2<=k
        ·obtain ⟨q,hq⟩:∃q,q+1=k:=⟨k - 1,by have:=Cp.out;omega⟩
         have sk:IntKind.i64.wrap ((k:Int) - 1)=(q:Int):=by rw [zw _ uv];omega
         obtain ⟨x,hx,-⟩:=Dz.out.at k uv;obtain ⟨y,hy,-⟩:=Dz.out.at a uv;have d0:(0:Int)<=(a:Int):=ud;have d1:(a:Int) < (n:Int):=uq;have d2:(0:Int)<=(k:Int):=ud;have d3:(k:Int) < (n:Int):=uv;have d4:(i2:Int)<=(k:Int):=ud;have HK:=zh (zn BY (zn Cg (zn Ga hq)));clear BY Cg Ga hq;go_wp2_with fail
         go_quiet ((go_at_call 172;exact Calls.quiet_of_same (zaB _ _ _)))
         have Bm:=zh (Dz.out.drewN nq);generalize decide (y < x)=bl at *;generalize wr.drewN nq=wq at *;clear hx hy
         cases bl with
         | false=>
           go_wp2_with fail
           go_meet
           case rel=> exact ⟨k,uak,rfl,Bm.out⟩
         | true=>
           go_wp2_with fail
           go_roundw
           case rel=> exact ⟨q,by have:=HK.out;have:=Cp.out;omega,rfl,Bm.out⟩
           case measure=> have:=HK.out;have:=Cp.out;simp [intOf];omega
        have d4:¬(i2:Int)<=(k:Int):=ud;go_wp2_with fail
        go_quiet (fail)
        have Bm:=zh (Dz.out.drewN nq);go_wp2_with fail
        go_meet
        case rel=> exact ⟨k,ud,rfl,Bm.out⟩
  obtain ⟨j2,EC,rfl,Gx⟩:=hcut;have F6:=zh EC;have B9:=zh Gx;clear EC Gx
  by_cases Ky:j2 < i2
  ·have Jh:(j2:Int) < (i2:Int):=ud
   go_wp2;go_ret;exact ⟨⟨i2,rfl,by have:=Cp.out;omega,by have:=Cp.out;omega⟩,B9.out⟩
  have Jh:¬(j2:Int) < (i2:Int):=ud;have HG:=zh Ky;clear Ky;obtain ⟨q,hq⟩:∃q,q+1=j2:=⟨j2 - 1,by have:=Cp.out;have:=HG.out;omega⟩
  have sq:IntKind.i64.wrap ((j2:Int) - 1)=(q:Int):=by rw [zw _ uE];omega
  have si:IntKind.i64.wrap ((i2:Int)+1)=((i2+1:Nat):Int):=by rw [zw _ uv];omega
  have HQ:=zh hq;clear hq;have p0i2:(0:Int)<=(i2:Int):=ud;have p1i2:(i2:Int) < (n:Int):=ux;have p0j2:(0:Int)<=(j2:Int):=ud;have p1j2:(j2:Int) < (n:Int):=uE;obtain ⟨z0,z1,e0,e1,f0,f1,f2,e2,BS⟩:=B9.out.swap i2 j2 ux ux;have Az:=zh BS;clear BS;go_upto_region 8 with fail
  go_cut [] from 65 to 78 (fun wx=> zar g w0 xs0 wx)
  case first=>
       go_region_law fail
       all_goals
        go_wp2_with fail
        go_meet
        case rel=> exact ul
  have Dt:=zh hcut;clear hcut e0 e1 f0 f1 f2 e2 Az;go_wp2_with fail
  go_roundw
  case rel=> exact ⟨i2+1,q,by have:=HB.out;have:=Cp.out;have:=HG.out;have:=F6.out;have:=HQ.out;omega,rfl,rfl,Dt.out⟩
  case measure=> have:=HB.out;have:=Cp.out;have:=HG.out;have:=F6.out;have:=UM.out;have:=HQ.out;simp [intOf];omega
theorem zg3 (h:zar g w0 xs0 w) (hn:xs0.length=n) (BH:n<=1000000) (a b p:Nat) (Dh:a+1 < b) (hb:b<=n) (DJ:a<=p) (MK:p < b):
 χ 174 #[σ (some ↑g) n c,↑a,↑b,↑p] w fun e w'=> zpI a b e/\zar g w0 xs0 w':=by
 have H:=zh h;have HB:=zh (zn hn (zn BH (zn Dh (zn hb (zn DJ MK)))));obtain ⟨a1,Kh⟩:∃a1,a1=a+1:=⟨_,rfl⟩;obtain ⟨b1,Aa⟩:∃b1,b1+1=b:=⟨b - 1,ud⟩;have sa:IntKind.i64.wrap ((a:Int)+1)=(a1:Int):=by rw [zw _ ud];omega
 have sb:IntKind.i64.wrap ((b:Int) - 1)=(b1:Int):=by rw [zw _ ud];omega
 have HI:=zh (show a+1<=a1/\a1<=b/\a<=b1/\b1 < b by omega)
 clear h hn BH Dh hb DJ MK Kh Aa;have q0:(0:Int)<=(a:Int):=ud;have q1:(a:Int) < (n:Int):=uq;have q2:(0:Int)<=(p:Int):=ud;have q3:(p:Int) < (n:Int):=uq
 go_in;obtain ⟨z0,z1,e0,e1,f0,f1,f2,e2,BS⟩:=H.out.swap a p uq uq
 have Az:=zh BS;clear BS;go_upto_region 1 with fail
 go_cut [] from 12 to 25 (fun wx=> zar g w0 xs0 wx)
 case first=>
  go_region_law fail
  all_goals
   go_wp2_with fail
   go_meet
   case rel=> exact ul
 have Dx:=zh hcut;clear hcut e0 e1 f0 f1 f2 e2 Az;rename World=> woHS3
 go_upto_block 0 with fail
 go_cut [10] from 30 to 45 (fun u wx=> ∃K:Nat,(a1<=K/\K<=b)/\u= ι K/\zar g w0 xs0 wx)
 case first=>
  go_wp2_with fail
  go_loopw [10] (fun u wr=> ∃K:Nat,(a1<=K/\K<=b)/\u= ι K/\zar g w0 xs0 wr) (fun u _=> b - (intOf u).toNat)
  case atStart=> exact ⟨a1,uy,rfl,Dx.out⟩
  case round=>
   obtain ⟨k,⟨BY,Cg⟩,rfl,hS⟩:=hrel;have Dz:=zh hS;clear hS
   by_cases Ga:k<=b1
   ·have sk:IntKind.i64.wrap ((k:Int)+1)=((k+1:Nat):Int):=by rw [zw _ uap];omega
    obtain ⟨x,hx,-⟩:=Dz.out.at k uap;obtain ⟨y,hy,-⟩:=Dz.out.at a uap;have d0:(0:Int)<=(a:Int):=ud;have d1:(a:Int) < (n:Int):=uq;have d2:(0:Int)<=(k:Int):=ud;have d3:(k:Int) < (n:Int):=uap;have d4:(k:Int)<=(b1:Int):=ud;have HK:=zh (zn BY (zn Cg Ga));clear BY Cg Ga;go_wp2_with fail
    go_quiet ((go_at_call 172;exact Calls.quiet_of_same (zaB _ _ _)))
    have Bm:=zh (Dz.out.drewN nq);generalize decide (x < y)=bl at *;generalize wr.drewN nq=wq at *;clear hx hy
    cases bl with
    | false=>
      go_wp2_with fail
      go_meet
      case rel=> exact ⟨k,uak,rfl,Bm.out⟩
    | true=>
      go_wp2_with fail
      go_roundw
      case rel=> exact ⟨k+1,by have:=HK.out;have:=HI.out;omega,rfl,Bm.out⟩
      case measure=> have:=HK.out;have:=HI.out;simp [intOf];omega
   have d4:¬(k:Int)<=(b1:Int):=ud;go_wp2_with fail
   go_quiet (fail)
   have Bm:=zh (Dz.out.drewN nq);go_wp2_with fail
   go_meet
   case rel=> exact ⟨k,ud,rfl,Bm.out⟩
 obtain ⟨i2,FS,rfl,Gw⟩:=hcut;have UM:=zh FS;have Bm:=zh Gw;clear FS Gw;have Cp:=zh (show a+1<=i2/\i2<=b/\a<=b1/\b1 < b by have:=HI.out;have:=UM.out;omega)
 rename World=> woHS5
 go_upto_block 2 with fail
 go_cut [11] from 46 to 62 (fun u wx=> ∃K:Nat,(a<=K/\K<=b1)/\u= ι K/\zar g w0 xs0 wx)
 case first=>
  go_wp2_with fail
  go_loopw [11] (fun u wr=> ∃K:Nat,(a<=K/\K<=b1)/\u= ι K/\zar g w0 xs0 wr) (fun u _=> (intOf u).toNat)
  case atStart=> exact ⟨b1,(by have:=Cp.out;omega),rfl,Bm.out⟩
  case round=>
   obtain ⟨k,⟨BY,Cg⟩,rfl,hS⟩:=hrel;have Dz:=zh hS;clear hS
   by_cases Ga:i2<=k
   ·obtain ⟨q,hq⟩:∃q,q+1=k:=⟨k - 1,by have:=Cp.out;omega⟩
    have sk:IntKind.i64.wrap ((k:Int) - 1)=(q:Int):=by rw [zw _ uv];omega
    obtain ⟨x,hx,-⟩:=Dz.out.at k uv;obtain ⟨y,hy,-⟩:=Dz.out.at a uv;have d0:(0:Int)<=(a:Int):=ud;have d1:(a:Int) < (n:Int):=uq;have d2:(0:Int)<=(k:Int):=ud;have d3:(k:Int) < (n:Int):=uv;have d4:(i2:Int)<=(k:Int):=ud;have HK:=zh (zn BY (zn Cg (zn Ga hq)));clear BY Cg Ga hq;go_wp2_with fail
    go_quiet ((go_at_call 172;exact Calls.quiet_of_same (zaB _ _ _)))
    have Bm:=zh (Dz.out.drewN nq);generalize decide (x < y)=bl at *;generalize wr.drewN nq=wq at *;clear hx hy
    cases bl with
    | true=>
      go_wp2_with fail
      go_meet
      case rel=> exact ⟨k,uak,rfl,Bm.out⟩
    | false=>
      go_wp2_with fail
      go_roundw
      case rel=> exact ⟨q,by have:=HK.out;have:=Cp.out;omega,rfl,Bm.out⟩
      case measure=> have:=HK.out;have:=Cp.out;simp [intOf];omega
   have d4:¬(i2:Int)<=(k:Int):=ud;go_wp2_with fail
   go_quiet (fail)
   have Bm:=zh (Dz.out.drewN nq);go_wp2_with fail
   go_meet
   case rel=> exact ⟨k,ud,rfl,Bm.out⟩
 obtain ⟨j2,EC,rfl,Gx⟩:=hcut;have F6:=zh EC;have B9:=zh Gx;clear EC Gx;have p0j2:(0:Int)<=(j2:Int):=ud;have p1j2:(j2:Int) < (n:Int):=uE
 by_cases Ky:j2 < i2
 ·have Jh:(j2:Int) < (i2:Int):=ud;obtain ⟨z0,z1,e0,e1,f0,f1,f2,e2,BS⟩:=B9.out.swap j2 a uE uE;have Az:=zh BS;clear BS;go_upto_region 8 with fail
  go_cut [] from 66 to 79 (fun wx=> zar g w0 xs0 wx)
  case first=>
   go_region_law fail
   all_goals
        go_wp2_with fail
        go_meet
        case rel=> exact ul
  have Dt:=zh hcut;clear hcut e0 e1 f0 f1 f2 e2 Az;go_wp2;go_ret2;exact ⟨⟨j2,true,rfl,by have:=F6.out;omega,by have:=Cp.out;have:=F6.out;omega⟩,Dt.out⟩
 have Jh:¬(j2:Int) < (i2:Int):=ud;have HG:=zh Ky;clear Ky;obtain ⟨q,hq⟩:∃q,q+1=j2:=⟨j2 - 1,by have:=Cp.out;have:=HG.out;omega⟩
 have sq:IntKind.i64.wrap ((j2:Int) - 1)=(q:Int):=by rw [zw _ uE];omega
 have si:IntKind.i64.wrap ((i2:Int)+1)=((i2+1:Nat):Int):=by rw [zw _ uv];omega
 have HQ:=zh hq;clear hq;have p0i2:(0:Int)<=(i2:Int):=ud;have p1i2:(i2:Int) < (n:Int):=ux;obtain ⟨z0,z1,e0,e1,f0,f1,f2,e2,BS⟩:=B9.out.swap i2 j2 ux ux;have Az:=zh BS;clear BS;go_upto_region 10 with fail
 go_cut [] from 81 to 94 (fun wx=> zar g w0 xs0 wx)
 case first=>
  go_region_law fail
  all_goals
       go_wp2_with fail
       go_meet
       case rel=> exact ul
 have Dt:=zh hcut;clear hcut e0 e1 f0 f1 f2 e2 Az;clear p0i2 p1i2 p0j2 p1j2;go_wp2_with fail
 go_loopw [10,11] (fun u10 u11 wr=> ∃i j:Nat,(a+1<=i/\i<=b/\a<=j/\j < b)/\u10= ι i/\u11= ι j/\zar g w0 xs0 wr) (fun u10 u11 _=> (intOf u11).toNat+1 - (intOf u10).toNat)
 case atStart=> exact ⟨i2+1,q,by have:=HB.out;have:=Cp.out;have:=HG.out;have:=F6.out;have:=HQ.out;omega,rfl,rfl,Dt.out⟩
 case round=>
  clear sq si Jh;obtain ⟨i,j,Fr,rfl,rfl,hS⟩:=hrel;have FA:=zh Fr;have G1:=zh hS;clear hS Fr sa sb;rename World=> woHS8
  go_upto_block 6 with fail
  go_cut [10] from 99 to 114 (fun u wx=> ∃K:Nat,(i<=K/\K<=b)/\u= ι K/\zar g w0 xs0 wx)
  case first=>
       go_wp2_with fail
       go_loopw [10] (fun u wr=> ∃K:Nat,(i<=K/\K<=b)/\u= ι K/\zar g w0 xs0 wr) (fun u _=> b - (intOf u).toNat)
       case atStart=> exact ⟨i,(by have:=FA.out;omega),rfl,G1.out⟩
       case round=>
        obtain ⟨k,⟨BY,Cg⟩,rfl,hS⟩:=hrel;have Dz:=zh hS;clear hS
        by_cases Ga:k<=j
        ·have sk:IntKind.i64.wrap ((k:Int)+1)=((k+1:Nat):Int):=by rw [zw _ uC];omega
         obtain ⟨x,hx,-⟩:=Dz.out.at k uC;obtain ⟨y,hy,-⟩:=Dz.out.at a uC;have d0:(0:Int)<=(a:Int):=ud;have d1:(a:Int) < (n:Int):=uq;have d2:(0:Int)<=(k:Int):=ud;have d3:(k:Int) < (n:Int):=uC;have d4:(k:Int)<=(j:Int):=ud;have HK:=zh (zn BY (zn Cg Ga));clear BY Cg Ga;go_wp2_with fail
         go_quiet ((go_at_call 172;exact Calls.quiet_of_same (zaB _ _ _)))
         have Bm:=zh (Dz.out.drewN nq);generalize decide (x < y)=bl at *;generalize wr.drewN nq=wq at *;clear hx hy
         cases bl with
         | false=>
           go_wp2_with fail
           go_meet
           case rel=> exact ⟨k,uak,rfl,Bm.out⟩
         | true=>
           go_wp2_with fail
           go_roundw
           case rel=> exact ⟨k+1,by have:=HK.out;have:=FA.out;omega,rfl,Bm.out⟩
           case measure=> have:=HK.out;have:=FA.out;simp [intOf];omega
        have d4:¬(k:Int)<=(j:Int):=ud;go_wp2_with fail
        go_quiet (fail)
        have Bm:=zh (Dz.out.drewN nq);go_wp2_with fail
        go_meet
        case rel=> exact ⟨k,ud,rfl,Bm.out⟩
  obtain ⟨i3,Jj,rfl,Nn⟩:=hcut;have Qv:=zh Jj;have UJ:=zh Nn;clear Jj Nn;have FB:=zh (show a+1<=i3/\i3<=b/\a<=j/\j < b by have:=FA.out;have:=Qv.out;omega)
  rename World=> woHS9
  go_upto_block 8 with fail
  go_cut [11] from 115 to 131 (fun u wx=> ∃K:Nat,(a<=K/\K<=j)/\u= ι K/\zar g w0 xs0 wx)
  case first=>
       go_wp2_with fail
       go_loopw [11] (fun u wr=> ∃K:Nat,(a<=K/\K<=j)/\u= ι K/\zar g w0 xs0 wr) (fun u _=> (intOf u).toNat)
       case atStart=> exact ⟨j,(by have:=FB.out;omega),rfl,UJ.out⟩
       case round=>
        obtain ⟨k,⟨BY,Cg⟩,rfl,hS⟩:=hrel;have Dz:=zh hS;clear hS
        by_cases Ga:i3<=k
        ·obtain ⟨q,hq⟩:∃q,q+1=k:=⟨k - 1,by have:=FB.out;omega⟩
         have sk:IntKind.i64.wrap ((k:Int) - 1)=(q:Int):=by rw [zw _ uW];omega
         obtain ⟨x,hx,-⟩:=Dz.out.at k uW;obtain ⟨y,hy,-⟩:=Dz.out.at a uW;have d0:(0:Int)<=(a:Int):=ud;have d1:(a:Int) < (n:Int):=uq;have d2:(0:Int)<=(k:Int):=ud;have d3:(k:Int) < (n:Int):=uW;have d4:(i3:Int)<=(k:Int):=ud;have HK:=zh (zn BY (zn Cg (zn Ga hq)));clear BY Cg Ga hq;go_wp2_with fail
         go_quiet ((go_at_call 172;exact Calls.quiet_of_same (zaB _ _ _)))
         have Bm:=zh (Dz.out.drewN nq);generalize decide (x < y)=bl at *;generalize wr.drewN nq=wq at *;clear hx hy
         cases bl with
         | true=>
           go_wp2_with fail
           go_meet
           case rel=> exact ⟨k,uak,rfl,Bm.out⟩
         | false=>
           go_wp2_with fail
           go_roundw
           case rel=> exact ⟨q,by have:=HK.out;have:=FB.out;omega,rfl,Bm.out⟩
           case measure=> have:=HK.out;have:=FB.out;simp [intOf];omega
        have d4:¬(i3:Int)<=(k:Int):=ud;go_wp2_with fail
        go_quiet (fail)
        have Bm:=zh (Dz.out.drewN nq);go_wp2_with fail
        go_meet
        case rel=> exact ⟨k,ud,rfl,Bm.out⟩
  obtain ⟨j3,MB,rfl,No⟩:=hcut;have J9:=zh MB;have Ry:=zh No;clear MB No;have p0j3:(0:Int)<=(j3:Int):=ud;have p1j3:(j3:Int) < (n:Int):=uR
  by_cases Ky:j3 < i3
  ·have Jh:(j3:Int) < (i3:Int):=ud;obtain ⟨z0,z1,e0,e1,f0,f1,f2,e2,BS⟩:=Ry.out.swap j3 a uR uR;have Az:=zh BS;clear BS;go_upto_region 21 with fail
   go_cut [] from 153 to 166 (fun wx=> zar g w0 xs0 wx)
   case first=>
    go_region_law fail
    all_goals
     go_wp2_with fail
     go_meet
     case rel=> exact ul
   have Dy:=zh hcut;clear hcut e0 e1 f0 f1 f2 e2 Az;go_wp2;go_ret2;exact ⟨⟨j3,false,rfl,by have:=J9.out;omega,by have:=FB.out;have:=J9.out;omega⟩,Dy.out⟩
  have Jh:¬(j3:Int) < (i3:Int):=ud;have M3:=zh Ky;clear Ky;obtain ⟨q3,P2⟩:∃q,q+1=j3:=⟨j3 - 1,by have:=FB.out;have:=M3.out;omega⟩
  have sq3:IntKind.i64.wrap ((j3:Int) - 1)=(q3:Int):=by rw [zw _ uR];omega
  have si3:IntKind.i64.wrap ((i3:Int)+1)=((i3+1:Nat):Int):=by rw [zw _ uW];omega
  have Rt:=zh P2;clear P2;have p0i3:(0:Int)<=(i3:Int):=ud;have p1i3:(i3:Int) < (n:Int):=uI;obtain ⟨z0,z1,e0,e1,f0,f1,f2,e2,BS⟩:=Ry.out.swap i3 j3 uI uI;have Az:=zh BS;clear BS;go_upto_region 18 with fail
  go_cut [] from 135 to 148 (fun wx=> zar g w0 xs0 wx)
  case first=>
   go_region_law fail
   all_goals
    go_wp2_with fail
    go_meet
    case rel=> exact ul
  have Dy:=zh hcut;clear hcut e0 e1 f0 f1 f2 e2 Az;go_wp2_with fail
  go_roundw
  case rel=> exact ⟨i3+1,q3,uI,rfl,rfl,Dy.out⟩
  case measure=> have:=HB.out;have:=FB.out;have:=M3.out;have:=J9.out;have:=Qv.out;have:=Rt.out;simp [intOf];omega
end
end Go.Proofs.YtaoceecfjlkmdaaGreat
