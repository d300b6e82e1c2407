/- Lemmas of the walks, merged and pressed by press.py. Conditions: those of each theorem. -/
import Derived.Test.YtfldlfladcfggaaGreatM24
import Derived.Deep.RegionWith
import Derived.Deep.RegionHeld3
import Derived.Test.YtfldlfladcfggaaGreatM3
import Derived.Test.YtfldlfladcfggaaGreatM15
import Derived.Test.YtfldlfladcfggaaGreatM21
import Derived.Test.YtfldlfladcfggaaGreatM19
import Derived.Test.YtfldlfladcfggaaGreatM23
set_option maxRecDepth 100000
set_option maxHeartbeats 64000000
set_option linter.all false
namespace Go.Proofs.YtfldlfladcfggaaGreat
section
open Go.RowKit
def zcP (k:UInt8) (body:List UInt8):List UInt8:=157::76::k::UInt8.ofNat body.length::(body++List.replicate (120 - body.length) 0)
def zcC (k:UInt8) (body:List UInt8):List UInt8:=zcP k body++leN 4 (zhF (zcP k body))
def zcK (l:List UInt8):Bool:=
 match l with
 | _::_::k::n::r=> decide (1≤k.toNat) && decide (k.toNat≤6) && decide (n.toNat≤120) && (l==zcC k (r.take n.toNat))
 | _=> false
def zgB (l:List UInt8):Bool:=
 match l with
 | a::b::k::n::r=> decide (a=157) && decide (b=76) && (decide (1≤k.toNat) && decide (k.toNat≤6)) && decide (n.toNat≤120) && ((r.drop n.toNat).take (120 - n.toNat)).all (· ==0) && decide (zbm (l.drop 124)=zhF (l.take 124))
 | _=> false
theorem znP {l:List UInt8} (h:l.all (· ==0)=true):l=List.replicate l.length 0:=by
 apply List.eq_replicate_iff.2
 refine ⟨rfl,fun b hb=> ?_⟩;have:=List.all_eq_true.1 h b hb
 simpa using this
theorem zb3 (k:UInt8) (body:List UInt8) (h:body.length≤120):(zcP k body).length=124:=by
 simp [zcP];omega
theorem zix (l:List UInt8) (hl:l.length=128):zgB l=zcK l:=by
 match l,hl with
 | a :: b::k::n::r,hl=>
   have hr:r.length=124:=by simpa using hl
   rw [Bool.eq_iff_iff];simp only [zgB,zcK,Bool.and_eq_true,decide_eq_true_eq,beq_iff_eq]
   constructor
   ·rintro ⟨⟨⟨⟨⟨rfl,rfl⟩,h1,h2⟩,h3⟩,h4⟩,h5⟩;refine ⟨⟨⟨h1,h2⟩,h3⟩, ?_⟩;have ht:(r.take n.toNat).length=n.toNat:=by rw [List.length_take];omega
    have hz:=znP h4;rw [List.length_take,List.length_drop,show min (120 - n.toNat) (r.length - n.toNat)=120 - n.toNat by omega] at hz
    have DI:zcP k (r.take n.toNat)=(157::76::k::n::r).take 124:=by
        unfold zcP;rw [ht,← hz,show (124:Nat)=120+1+1+1+1 from rfl];simp only [List.take_succ_cons];rw [show UInt8.ofNat n.toNat=n from UInt8.ofNat_toNat]
        congr 4
        conv=> rhs;rw [show (120:Nat)=n.toNat+(120 - n.toNat) by omega,List.take_add]
    unfold zcC;rw [DI];have EY:(157::76::k::n::r:List UInt8).drop 124=leN 4 (zhF ((157::76::k::n::r:List UInt8).take 124)):=by
        apply zhY
        ·rw [zed];simp [hr]
        ·rw [h5,zmN];have:=zgK ((157::76::k::n::r:List UInt8).take 124)
         omega
    rw [← EY,List.take_append_drop]
   ·rintro ⟨⟨⟨h1,h2⟩,h3⟩,he⟩;have ht:(r.take n.toNat).length=n.toNat:=by rw [List.length_take];omega
    have Pv:=zb3 k (r.take n.toNat) (by omega)
    have DI:(a::b::k::n::r).take 124=zcP k (r.take n.toNat):=by
        rw [he];unfold zcC;rw [List.take_left' Pv]
    have EY:(a::b::k::n::r).drop 124=leN 4 (zhF (zcP k (r.take n.toNat))):=by
        conv=> lhs;rw [he]
        unfold zcC;rw [List.drop_left' Pv]
    have Pt:=DI;unfold zcP at Pt;rw [ht,show (124:Nat)=120+1+1+1+1 from rfl] at Pt;simp only [List.take_succ_cons,List.cons.injEq] at Pt;obtain ⟨rfl,rfl,_,_,hb⟩:=Pt;refine ⟨⟨⟨⟨⟨rfl,rfl⟩,h1,h2⟩,h3⟩, ?_⟩, ?_⟩
    ·have:(r.drop n.toNat).take (120 - n.toNat)=List.replicate (120 - n.toNat) 0:=by
      have h6:r.take 120=r.take n.toNat++(r.drop n.toNat).take (120 - n.toNat):=by
       conv=> lhs;rw [show (120:Nat)=n.toNat+(120 - n.toNat) by omega,List.take_add]
      rw [h6] at hb;exact List.append_cancel_left hb
     rw [this];simp
    ·rw [EY,zmN _ _ (by have:=zgK (zcP k (r.take n.toNat));omega),← DI]
theorem zpM {l:List UInt8} (h:l.length=128):∃a b k n r,l=a::b::k::n::r∧r.length=124:=by
 match l,h with
 | a::b::k::n::r,h=> exact ⟨a,b,k,n,r,rfl,by simpa using h⟩
def ziA (l:List UInt8):List UInt8:=(l.drop 4).take (l.getD 3 0).toNat
def znI (l:List UInt8) (w:World) (e:Ending) (w':World):Prop:=
 Below w.heap.size w w'∧((zcK l=true∧∃v,e= .returned (.tuple #[.int .i64 ((l.getD 2 0).toNat:Int),v, .int .i64 0])∧w'.ownsRow w.heap.size 5 1 v (ziA l).length (zc (ziA l)))∨(zcK l=false∧∃f:Nat,f≠0∧e= .returned (.tuple #[.int .i64 0, .slice none 0 0, .int .i64 (f:Int)])))
theorem zj3 (k:Nat) (w:World):Calls Tryz.prog 103 #[.int .i64 (k:Int)] w fun e w'=> e= .returned (.bool (decide (1≤k) && decide (k≤6)))∧w=w':=by
 by_cases h1:1≤k
 ·have h1i:(1:Int)≤(k:Int):=by omega
  by_cases h2:k≤6
  ·have h2i:(k:Int)≤6:=by omega
   go_enter Tryz.func103,Tryz.ntmps103;go_wp2_with fail;go_ret;exact ⟨by simp [*],rfl⟩
  ·have h2i:¬(k:Int)≤6:=by omega
   go_enter Tryz.func103,Tryz.ntmps103;go_wp2_with fail;go_ret;exact ⟨by simp [*],rfl⟩
 ·have h1i:¬(1:Int)≤(k:Int):=by omega
  go_enter Tryz.func103,Tryz.ntmps103;go_wp2_with fail;go_ret;exact ⟨by simp [*],rfl⟩
theorem zji (b o cap:Nat) (l:List UInt8) (w:World) (h:Bs w (some ⟨b,o,none⟩) 128 l) (Ep:128≤cap):
 Calls Tryz.prog 119 #[.slice (some ⟨b,o,none⟩) 128 cap] w (znI l w):=by
 have Sc:=zix l h.length;obtain ⟨x0,x1,k,n,r,rfl,hr⟩:=zpM h.length;obtain ⟨b2,o2,k',e2,FU,GB,E8⟩:=Bs.cell h 2 (by omega)
 cases e2
 obtain ⟨b3,o3,n',e3,IE,DR,_⟩:=Bs.cell h 3 (by omega)
 cases e3
 simp at FU IE;subst FU IE;have hA:zgB (x0::x1::k::n::r)=(decide (x0=157) && decide (x1=76) && (decide (1≤k.toNat) && decide (k.toNat≤6)) && decide (n.toNat≤120) && ((r.drop n.toNat).take (120 - n.toNat)).all (· ==0) && decide (zbm ((x0::x1::k::n::r).drop 124)=zhF ((x0::x1::k::n::r).take 124))):=rfl;rw [Sc] at hA;have hG:((x0::x1::k::n::r).getD 2 0)=k:=rfl;have Fh:((x0::x1::k::n::r).getD 3 0).toNat=n.toNat:=rfl;have h2:=Bs.piece h 0 2 (by omega)
 rw [Nat.add_zero,List.drop_zero] at h2;have hz:=fun (hn:n.toNat≤120)=> Bs.piece h (4+n.toNat) (120 - n.toNat) (by omega)
 rw [show (x0::x1::k::n::r).drop (4+n.toNat)=r.drop n.toNat by rw [Nat.add_comm];rfl] at hz
 have GA:=fun (hn:n.toNat≤120)=> Bs.piece h 4 n.toNat (by omega)
 have DI:=Bs.piece h 0 124 (by omega)
 rw [Nat.add_zero,List.drop_zero] at DI;have EY:=Bs.tail h 124 (by omega)
 have hmagic:zbm ((x0::x1::k::n::r).take 2)=x0.toNat+256 * x1.toNat:=by simp [zbm]
 have Pq:=zge (some ⟨b,o,none⟩) 2 cap _ w h2 (by omega) (by omega)
 rw [hmagic] at Pq;obtain ⟨l,hl⟩:∃l,l=x0::x1::k::n::r:=⟨_,rfl⟩;rw [← hl] at hA hG Fh DI h EY GA ⊢;have HA:=zh hA;have HG:=zh hG;have M3:=zh Fh;have HB:=zh h;have HZ:=zh hz;have Gn:=zh GA;have Fz:=zh DI;have Eb:=zh EY;have JY:=zh Pq;have ED:=k.toNat_lt;have C5:=n.toNat_lt;have h0b:=x0.toNat_lt;have h1b:=x1.toNat_lt;have Ab:IntKind.i64.wrap (k.toNat:Int)=k.toNat:=zw _ (by omega)
 have GV:IntKind.i64.wrap (n.toNat:Int)=n.toNat:=zw _ (by omega)
 have Dv:IntKind.i64.wrap (4+(n.toNat:Int))=4+n.toNat:=zw _ (by omega)
 clear hA hG Fh GA DI h hl hr EY Pq hz Sc h2 hmagic
 by_cases Vq:x0=157∧x1=76
 ·obtain ⟨rfl,rfl⟩:=Vq;have KA:=zj3 k.toNat w;obtain ⟨kd,kR⟩:∃kd,(decide (1≤k.toNat) && decide (k.toNat≤6))=kd:=⟨_,rfl⟩;rw [kR] at KA HA;have Ip:=zh KA;clear KA kR
  cases kd
  ·have Fu:zcK l=false:=by rw [HA.out];simp
   have I2:=zh Fu;clear Fu HA HZ Gn Fz Eb;go_enter Tryz.func119,Tryz.ntmps119;go_wp2_with fail;refine JY.out.mono ?_;rintro e w1 ⟨rfl,rfl⟩;go_wp2_with fail;refine Ip.out.mono ?_;rintro e w1 ⟨rfl,rfl⟩;go_wp2_with fail
   go_ret3
   exact ⟨Below.refl _ _, .inr ⟨I2.out,21,by omega,rfl⟩⟩
  ·by_cases hn:n.toNat≤120
   ·rw [decide_eq_true hn] at HA;have Ob:=HZ.out hn;have LF:=zh (Gn.out hn);have Vs:(n.toNat:Int)≤120:=by omega
    obtain ⟨Z,hZ⟩:∃Z,Z=(r.drop n.toNat).take (120 - n.toNat):=⟨_,rfl⟩;rw [← hZ] at HA Ob;have WS:=zh Ob;have H8:¬cap=4+n.toNat:=by omega
    have yC:¬cap=124:=by omega
    have yD:¬cap=4:=by omega
    have Ci:120 - (n.toNat:Int)=((120 - n.toNat:Nat):Int):=by omega
    have E9:124 - (4+n.toNat)=120 - n.toNat:=by omega
    clear hZ Ob Gn HZ;generalize n.toNat=nn at *;go_enter Tryz.func119,Tryz.ntmps119;go_wp2_with fail;refine JY.out.mono ?_;rintro e w1 ⟨rfl,rfl⟩;go_wp2_with fail;refine Ip.out.mono ?_;rintro e w1 ⟨rfl,rfl⟩;go_wp2_with fail;have F5:=WS.out.length;have Z4:=zh F5;clear F5 JY Ip DR
    go_loop [36] (fun u36=> ∃j:Nat,j≤120 - nn∧u36= .int .i64 j∧Hid ((Z.take j).all (· ==0)=true)) (fun u36=> (120 - nn) - (intOf u36).toNat)
    case atStart=> exact ⟨0,by omega,rfl,zh rfl⟩
    case round=>
     obtain ⟨j,hj,rfl,HJ⟩:=hrel
     by_cases hlt:j < 120 - nn
     ·obtain ⟨_,_,c,e1,hc,yB,_⟩:=Bs.cell WS.out j hlt
      cases e1
      have MA:(0:Int)≤(j:Int):=by omega
      have EB:(j:Int) < ((124 - (4+nn):Nat):Int):=by omega
      have EC:(j:Int) < ((120 - nn:Nat):Int):=by omega
      have Aq:=byte0 c
      by_cases Em:c=0
      ·have hb:=Aq.1 Em;have DU:(Z.take (j+1)).all (· ==0)=true:=by
        rw [List.take_add_one,hc,List.all_append,HJ.out,Em];rfl
       have HN:=zh DU;subst Em;clear hc Aq HJ DU;go_wp2_with fail;exact ⟨⟨j+1,by omega,by go_num,HN⟩,by simp [intOf];omega⟩
      ·have hb:=Aq.2 Em;have Uv:Z.all (· ==0)=false:=by
        rw [List.all_eq_false];exact ⟨c,zm hc,by simpa using Em⟩
       have Fu:zcK l=false:=by rw [HA.out,Uv];simp
       have I2:=zh Fu;clear hc Aq HJ Uv Fu HA Em;go_wp2_with fail
       go_ret3
       exact ⟨Below.refl _ _, .inr ⟨I2.out,21,by omega,rfl⟩⟩
     ·have yY:j=120 - nn:=by omega
      subst yY;have Uv:Z.all (· ==0)=true:=by
       have:=HJ.out
       rwa [zk (by rw [Z4.out];omega)] at this
      have hP:zcK l=decide (zbm (l.drop 124)=zhF (l.take 124)):=by rw [HA.out,Uv];simp
      have AN:=zgK (l.take 124);have NH:(l.drop 124).length=4:=by rw [List.length_drop,HB.out.length]
      have FL:=zgZ (l.drop 124);rw [NH] at FL;obtain ⟨lv,MF⟩:∃lv,lv=zbm (l.drop 124):=⟨_,rfl⟩;obtain ⟨cr,BM⟩:∃cr,cr=zhF (l.take 124):=⟨_,rfl⟩;rw [← MF,← BM] at hP;rw [← MF] at FL;rw [← BM] at AN;have Wp:=zh MF;have Ds:=zh BM;have HP:=zh hP;have Zv:IntKind.u32.wrap (lv:Int)=lv:=by rw [IntKind.wrap_u32'];omega
      have Aa:Below w.heap.size w (w.alloc (.cells #[.slice (some ⟨b,o,none⟩) 124 cap] 25)):=zr.alloc zl _;have BC:Bs w.drew (some ⟨b,o+124,none⟩) 4 (l.drop 124):=Eb.out.below zr.drew zl;have A9:Bs (w.alloc (.cells #[.slice (some ⟨b,o,none⟩) 124 cap] 25)).drew (some ⟨b,o+124,none⟩) 4 (l.drop 124):=Eb.out.below Aa.drew zl;have Ng:Bs (w.alloc (.cells #[.slice (some ⟨b,o,none⟩) 124 cap] 25)).drew (some ⟨b,o,none⟩) 124 (l.take 124):=Fz.out.below Aa.drew zl;have jb:(w.alloc (.cells #[.slice (some ⟨b,o,none⟩) 124 cap] 25)).drew.cell? ⟨w.heap.size,0,none⟩=some (.slice (some ⟨b,o,none⟩) 124 cap):=by simp
      have Ae:=Aa.drew;clear MF BM hP Uv NH HA HJ WS Z4;go_wp2_with fail
      go_region_with (first
       | (go_at_call 173
          refine (zge (some ⟨b,o+124,none⟩) 4 (cap - 124) (l.drop 124) _ (by with_reducible first | exact BC | exact A9 | exact CA) (by omega) (by omega)).mono ?_
          rintro e w3 ⟨rfl,rfl⟩;simp only [← Wp.out])
       | (go_at_call 105
          refine (zhG w.heap.size 0 124 cap 1 (some ⟨b,o,none⟩) (l.take 124) _ (by with_reducible exact Ng) (by omega) (by with_reducible exact jb)).mono ?_
          rintro e w4 ⟨rfl,Am⟩;have Ar:=Ae.trans (Am.mono Ae.size);have CA:Bs w4 (some ⟨b,o+124,none⟩) 4 (l.drop 124):=Eb.out.below Ar zl;simp only [← Ds.out]))
      all_goals
       clear BC A9 Ng jb Aa Ae Am CA
       by_cases Lt:lv=cr
       ·have Fu:zcK l=true:=by rw [HP.out,decide_eq_true Lt]
        have I2:=zh Fu;subst Lt;have Aj:((lv:Int) !=(lv:Int))=false:=by simp
        have C6:(0:Int)≤4+(nn:Int):=by omega
        have GP:4+(nn:Int)≤(cap:Int):=by omega
        have Jq:(4:Int)≤max (4+(nn:Int)) 0:=by omega
        have GQ:(4+(nn:Int)).toNat - 4=nn:=by omega
        have yz:w4.cell? ⟨b,o+2,none⟩=some (.int .u8 (k.toNat:Int)):=by rw [Ar.cell E8];exact GB
        have F8:Bs w4.drew (some ⟨b,o+4,none⟩) nn (List.take nn (List.drop 4 l)):=LF.out.below Ar.drew zl;have EU:w4.drew.ownsRow w.heap.size 5 1 (.slice none 0 0) ([]:List UInt8).length (zc []):=World.ownsRow_nil _ _ _ _;obtain ⟨v',w5,BE,NQ,BN⟩:=ziw EU (cap - 4) F8 (by simp;omega) Ar.drew.size
        have Ww:Hid (w5.ownsRow w.heap.size 5 1 v' (ziA l).length (zc (ziA l))):=zh (by unfold ziA;rw [M3.out];exact NQ)
        have AT:Below w.heap.size w w5:=Below.own Ar.drew EU BN zl Ar.drew.size;have XU:w5.cell? ⟨b,o+2,none⟩=some (.int .u8 (k.toNat:Int)):=by rw [AT.cell E8];exact GB
        clear Fu F8 BN EU NQ HP Wp Ds LF Fz Eb HB GB;go_wp2_with fail;simp only [Act.put,List.getElem_toArray,List.getElem_cons_zero,List.getElem_cons_succ,List.setIfInBounds_toArray,List.set_cons_zero,List.set_cons_succ]
        first
               | (go_region_held3 (fun w'=> w'.cell? ⟨b,o+2,none⟩=some (.int .u8 (k.toNat:Int)))
                    (first | exact hHeld | exact XU | go_keep)
                    (first | refine zfG (o:=⟨some 60,_,_,_,_,_⟩) (by kernel_rfl) _ _ _ rfl BE ?_))
               | fail "no region"
        all_goals
               go_wp2_with fail
               go_ret3
               exact ⟨AT, .inl ⟨I2.out,_,by rw [HG.out];rfl,Ww.out⟩⟩
       ·have Fu:zcK l=false:=by rw [HP.out,decide_eq_false Lt]
        have I2:=zh Fu;have Aj:((lv:Int) !=(cr:Int))=true:=by simp;omega
        clear Fu HP Wp Ds LF Fz Eb HB;go_wp2_with fail
        go_ret3
        exact ⟨Ar, .inr ⟨I2.out,22,by omega,rfl⟩⟩
   ·have Fu:zcK l=false:=by rw [HA.out];simp [hn]
    have I2:=zh Fu;have Vs:¬(n.toNat:Int)≤120:=by omega
    clear Fu HA HZ Gn Fz Eb;go_enter Tryz.func119,Tryz.ntmps119;go_wp2_with fail;refine JY.out.mono ?_;rintro e w1 ⟨rfl,rfl⟩;go_wp2_with fail;refine Ip.out.mono ?_;rintro e w1 ⟨rfl,rfl⟩;go_wp2_with fail
    go_ret3
    exact ⟨Below.refl _ _, .inr ⟨I2.out,21,by omega,rfl⟩⟩
 ·have Fu:zcK l=false:=by
   rw [HA.out]
   by_cases e0:x0=157
   ·have e1:¬x1=76:=fun e=> Vq ⟨e0,e⟩;simp [e1]
   ·simp [e0]
  have ci:¬(((x0.toNat+256 * x1.toNat:Nat):Int)=19613):=by
   intro e;exact Vq ⟨UInt8.toNat_inj.1 (by show x0.toNat=157;omega),UInt8.toNat_inj.1 (by show x1.toNat=76;omega)⟩
  have I2:=zh Fu;generalize x0.toNat+256 * x1.toNat=mg at *;clear Fu HA HZ Gn Fz Eb Vq;go_enter Tryz.func119,Tryz.ntmps119;go_wp2_with fail;refine JY.out.mono ?_;rintro e w1 ⟨rfl,rfl⟩;go_wp2_with fail
  go_ret3
  exact ⟨Below.refl _ _, .inr ⟨I2.out,21,by omega,rfl⟩⟩
end
section
open Go.RowKit
theorem zc7 {P:Program} (w:World) (t tn ty e:TypeId) (i:TypeInfo) (z:Value) (kq kn:IntKind) (ht:P.underlying t=some (.slice e)) (aX:P.underlying tn=some (.int kn)) (hi:P.info? e=some i) (hz:i.zero=some z)
 (g sLen sCap:Nat) (cur:Array Value) (hg:w.heap[g]? =some (.cells cur e (0,0))) (k:Nat) (h0:0 < k) (hs:i.size=1) (h1:z.oneCell'=true) (Gk:z.cells=#[z])
 (EW:sLen+k≤sCap) (Z7:(k:Int)≤9223372036854775807) (bN:k * i.bytes≤281474976710656) (FR:sLen+k≤cur.size):
 (Builtin.append_ #[t,tn] ty #[.slice (some ⟨g,0,none⟩) sLen sCap, .int kq k]).run P w=
   .ok (.slice (some ⟨g,0,none⟩) (sLen+k) sCap) (w.setRow g (cur.toList.take sLen++(Builtin.zeroCells z.cells k).toList++cur.toList.drop (sLen+k)).toArray):=by
 have hk:k≠0:=by omega
 have hw:IntKind.i64.wrap (k:Int)=k:=by rw [IntKind.wrap_i64];omega
 have h48i:¬(281474976710656 < (k:Int) * (i.bytes:Int)):=by
  rw [← Int.natCast_mul]
  omega
 have YN:¬((k:Int) < 0):=by omega
 have Ac:(Builtin.zeroCells z.cells k).toList.length=k:=by rw [Array.length_toList,size_zeroCells,Gk];simp
 have Bq:∀v ∈ (Builtin.zeroCells z.cells k).toList,v.oneCell'=true:=by
  intro v hv;rw [Gk] at hv;simp [Builtin.zeroCells,Nat.mod_one] at hv;obtain ⟨_,_,rfl⟩:=hv;exact h1
 have AO:=run_storeCells_at P g sLen e (Builtin.zeroCells z.cells k).toList 0 cur w hg (by rw [Ac];omega) Bq
 simp only [Nat.add_zero,Ac] at AO;simp [Builtin.append_,run_underlying ht,run_underlying aX,sizeOf,typeInfo,zeroValue,hi,hz,asInt,asIntOf,hw,YN,hk,EW,h48i,hs,Addr.add_lit,AO]
theorem zda (k:Nat):(Builtin.zeroCells (Value.int .u8 0).cells k).toList=zc (List.replicate k 0):=by
 apply List.ext_getElem
 ·simp [Builtin.zeroCells,zc,Value.cells]
 ·intro j h1 h2;simp [Builtin.zeroCells,zc,Value.cells,Nat.mod_one]
theorem zlY {w:World} {base:Nat} {v:Value} {acc:List UInt8} (Af:w.ownsRow base 5 1 v acc.length (zc acc)) (k:Nat) (h0:0 < k)
 (Ac:acc.length+k≤100000000000) (Cx:base≤w.heap.size):
 ∃v' w',(Builtin.append_ #[25,3] 25 #[v, .int .i64 (k:Int)]).run Tryz.prog w= .ok v' w'∧w'.ownsRow base 5 1 v' (acc++List.replicate k 0).length (zc (acc++List.replicate k 0))∧w.grownBy w' v.ownBlock:=by
 obtain ⟨i0,hi,AG,Ai,Ax⟩:=info_parts zi2;have AN:(zc acc).length=acc.length:=by simp [zc]
 have F5:(Builtin.zeroCells (Value.int .u8 0).cells k).size=k:=by rw [size_zeroCells];simp [Value.cells]
 have GH:(acc++List.replicate k 0).length=acc.length+k:=by simp
 rw [GH,zbY];rcases Af.2 with ⟨rfl,h2⟩ | ⟨g,cap,cur,rfl,Bc,hg,Ge,Ce,Fo,CY⟩
 ·have XB:acc= []:=List.eq_nil_of_length_eq_zero h2;subst XB;have hr:=Lib.run_append_nil_zeros (P:=Tryz.prog) w 25 3 25 5 i0 (.int .u8 0) .i64 .i64 Tryz.underlying25 Tryz.underlying3 hi AG k h0 (by omega) (by omega) (by rw [Ax];omega)
  have JH:=grownCap_ge w k 0 5;have Ce:grownCap w k 0 5≤maxLen:=grownCap_le_maxLen w k 0 5 (by unfold maxLen;omega)
  refine ⟨_,_,hr,⟨by simp [zc], .inr ⟨w.heap.size,_,_,by simp,Cx,heap_alloc_new w.drew _,by simpa using JH,Ce, ?_, ?_⟩⟩,⟨rfl,rfl,rfl,by simp,fun j hj _=> by first | exact Below.heap_alloc w.drew _ _ hj | exact Below.heap_alloc w.drew _ _ hj⟩⟩
  ·rw [Array.size_append,F5,size_zeroCells];simp [Value.cells];omega
  ·rw [Array.toList_append,zda];simp [zc]
 ·have Nw:cur.size=cap:=by omega
  by_cases EW:acc.length+k≤cap
  ·have hr:=zc7 (P:=Tryz.prog) w 25 3 25 5 i0 (.int .u8 0) .i64 .i64 Tryz.underlying25 Tryz.underlying3 hi AG g acc.length cap cur hg k h0 Ai rfl rfl EW (by omega) (by rw [Ax];omega) (by omega)
   refine ⟨_,_,hr,⟨by simp [zc], .inr ⟨g,cap,_,rfl,Bc,setRow_heap w g cur _ 5 _ hg,EW,Ce, ?_, ?_⟩⟩,⟨rfl,rfl,rfl,by simp,fun j _ hj=> setRow_other w g j _ (fun e=> hj (by simp [Value.ownBlock,e]))⟩⟩
   ·simp only [List.size_toArray,List.length_append,List.length_take,List.length_drop,Array.length_toList,F5]
    omega
   ·rw [Nat.mul_one] at CY;rw [CY,zda,Nat.mul_one];have:acc.length+k=(zc acc++zc (List.replicate k 0)).length:=by simp [zc]
    rw [this];exact List.take_left
  ·have IG:(Builtin.firstCells i0.size acc.length (.slice (some ⟨g,0,none⟩) acc.length cap)).run Tryz.prog w.drew= .ok (zc acc).toArray w.drew:=by
        rw [Ai];exact run_firstCells_some (P:=Tryz.prog) w.drew 1 acc.length ⟨g,0,none⟩ acc.length cap (zc acc) (by simp [zc]) (Af.drew.cells (g:=g) rfl)
   have hr:=Lib.run_append_grow_zeros (P:=Tryz.prog) w 25 3 25 5 i0 (.int .u8 0) .i64 .i64 Tryz.underlying25 Tryz.underlying3 hi AG (some ⟨g,0,none⟩) acc.length cap (zc acc) IG k h0 (by omega) (by omega) (by omega) (by rw [Ax];omega) (growslice_fits (by omega) (by rw [Ax];omega))
   have JH:=grownCap_ge w (acc.length+k) cap 5;have Pi:grownCap w (acc.length+k) cap 5≤maxLen:=grownCap_le_maxLen w (acc.length+k) cap 5 (by unfold maxLen;omega)
   refine ⟨_,_,hr,⟨by simp [zc], .inr ⟨w.heap.size,_,_,rfl,Cx,heap_alloc_new w.drew _,JH,Pi, ?_, ?_⟩⟩,⟨rfl,rfl,rfl,by simp,fun j hj _=> by first | exact Below.heap_alloc w.drew _ _ hj | exact Below.heap_alloc w.drew _ _ hj⟩⟩
   ·simp only [Array.size_append,F5,size_zeroCells,List.size_toArray,AN];simp [Value.cells];omega
   ·simp only [Array.toList_append,zda];have:(acc.length+k) * 1=(zc acc++zc (List.replicate k 0)).length:=by simp [zc]
    rw [this];exact List.take_left
end
section
open Go.RowKit
theorem zoe (w:World) (c:Nat) (hc:c≤1000):∃w',(Instr.makeSlice 25 (.int .i64 0) (.int .i64 (c:Int))).run Tryz.prog w= .ok (.slice (some ⟨w.heap.size,0,none⟩) 0 c) w'∧w'.ownsRow w.heap.size 5 1 (.slice (some ⟨w.heap.size,0,none⟩) 0 c) ([]:List UInt8).length (zc [])∧Below w.heap.size w w':=by
 obtain ⟨i0,hi,AG,Ai,Ax⟩:=info_parts zi2;obtain ⟨w',hr,ho,hg⟩:=run_make_own (P:=Tryz.prog) w w.heap.size 25 5 i0 (.int .u8 0) 1 Tryz.underlying25 hi AG Ai .i64 .i64 c (by rw [Ax];omega) (by unfold maxLen;omega) zl
 exact ⟨w',hr,ho,zr.grown hg zl (fun k hk=> by cases hk)⟩
theorem zoZ {w:World} {base:Nat} {v:Value} {acc:List UInt8} (Af:w.ownsRow base 5 1 v acc.length (zc acc)) (c d:UInt8)
 (Ac:acc.length+2≤100000000000) (Cx:base≤w.heap.size):
 ∃v' w',(Builtin.append_ #[25,25] 25 #[v, .slice (some ⟨w.heap.size,0,none⟩) 2 2]).run Tryz.prog (w.alloc (.cells #[.int .u8 (c.toNat:Int), .int .u8 (d.toNat:Int)] 5))= .ok v' w'∧w'.ownsRow base 5 1 v' (acc++ [c,d]).length (zc (acc++ [c,d]))∧w.grownBy w' v.ownBlock:=by
 obtain ⟨i0,hi,AG,Ai,Ax⟩:=info_parts zi2;obtain ⟨v',w',BE,ET,BN,_⟩:=zlX (P:=Tryz.prog) Tryz.underlying25 hi AG Ai Ax rfl (by decide) Af 2 [.int .u8 (c.toNat:Int), .int .u8 (d.toNat:Int)] rfl (fun u hu=> by simp at hu;rcases hu with rfl | rfl <;> rfl) (by unfold maxLen;omega) (by omega) Cx
 refine ⟨v',w',BE, ?_,BN⟩;rw [List.length_append,zbY];exact ET
theorem zgf {w:World} {base:Nat} {v:Value} {acc:List UInt8} (Af:w.ownsRow base 5 1 v acc.length (zc acc)) (Cx:base≤w.heap.size) (hl:acc.length≤1000000000) (x k:Nat) (hx:x < 18446744073709551616) (hk:k≤8):
 Calls Tryz.prog 104 #[v, .int .u64 (x:Int), .int .i64 (k:Int)] w fun e w'=> ∃v',e= .returned v'∧w'.ownsRow base 5 1 v' (acc++leN k x).length (zc (acc++leN k x))∧Below base w w':=by
 have HO:=zh Af;clear Af;go_enter Tryz.func104,Tryz.ntmps104;go_wp2_with fail
 go_loopw [0,10] (fun u0 u10 wr=> ∃j:Nat,j≤k∧u10= .int .i64 j∧wr.ownsRow base 5 1 u0 (acc++leN j x).length (zc (acc++leN j x))∧Below base w wr) (fun _ u10 _=> k - (intOf u10).toNat)
 case atStart=> exact ⟨0,by omega,rfl,by simpa [leN] using HO.out,Below.refl _ _⟩
 case round=>
  obtain ⟨j,hj,rfl,Af,FO⟩:=hrel
  by_cases hlt:j < k
  ·have hs:=zoa j x;have EF:(acc++leN j x).length=acc.length+j:=by rw [List.length_append,zed]
   have hm:IntKind.i64.wrap (8 * (j:Int))=8 * (j:Int):=zw _ (by omega)
   have LA:(0:Int)≤8 * (j:Int):=by omega
   have C6:8 * (j:Int) < 64:=by omega
   have TW:(8 * (j:Int)).toNat=8 * j:=by omega
   have Gr:(256:Nat) ^ j=2 ^ (8 * j):=by rw [Nat.pow_mul]
   rw [Gr] at hs;have VF:((x:Int) / 2 ^ (8 * j))=((x / 2 ^ (8 * j):Nat):Int):=by push_cast;rfl
   have IK:x / 2 ^ (8 * j)≤x:=Nat.div_le_self _ _;generalize x / 2 ^ (8 * j)=q at *;have hq:((q:Int) % 256)=((UInt8.ofNat q).toNat:Int):=by rw [UInt8.toNat_ofNat'];omega
   have hw:IntKind.u8.wrap (q:Int)=((UInt8.ofNat q).toNat:Int):=by rw [IntKind.wrap_u8',← hq]
   obtain ⟨v',w',BE,ET,BN⟩:=znR Af ((UInt8.ofNat q).toNat:Int) (UInt8.ofNat q) rfl (by omega) (zs Cx FO.size)
   have XP:=Below.own FO Af BN zl (zs Cx FO.size);rw [List.append_assoc,← hs] at ET;have HO:=zh ET;clear hs hq Af ET BN EF Gr
   go_wp2_with (at_builtin;refine za rfl _ _ _ rfl BE ?_)
   exact ⟨⟨j+1,by omega,by go_num,HO.out,XP⟩,by simp [intOf];omega⟩
  ·have:j=k:=by omega
   subst this;go_wp2_with fail;go_ret;exact ⟨u0,rfl,Af,FO⟩
theorem zn7 (k:Nat) (hk:1≤k∧k≤6) (w:World):Calls Tryz.prog 103 #[.int .i64 (k:Int)] w fun e w'=> e= .returned (.bool true)∧w=w':=
 (zj3 k w).mono fun _ _ h=> by rw [decide_eq_true hk.1,decide_eq_true hk.2] at h;exact h
theorem zmM:leN 2 19613= [157,76]:=by decide
theorem zjj {w:World} {b o n:Nat} (cap k:Nat) {l:List UInt8} (h:Bs w (some ⟨b,o,none⟩) n l) (hn:n < 120) (hk:1≤k∧k≤6):
 Calls Tryz.prog 59 #[.int .i64 (k:Int), .slice (some ⟨b,o,none⟩) n cap] w fun e w'=> ∃v,e= .returned (.tuple #[v, .int .i64 0])∧w'.ownsRow w.heap.size 5 1 v (zcC (UInt8.ofNat k) l).length (zc (zcC (UInt8.ofNat k) l))∧Below w.heap.size w w':=by
 obtain ⟨w1,QU,Bo,Aa⟩:=zoe w 128 (by omega)
 rw [show ((128:Nat):Int)=128 from rfl] at QU;have hl:=h.length;have H1:=zh (zn Bo (zn Aa (zn h hl)));have NE:((UInt8.ofNat k).toNat:Int)=k:=by rw [UInt8.toNat_ofNat'];omega
 have IF:((UInt8.ofNat n).toNat:Int)=n:=by rw [UInt8.toNat_ofNat'];omega
 have i1:¬(120:Int) < (n:Int):=by omega
 have i2:IntKind.u8.wrap (k:Int)=((UInt8.ofNat k).toNat:Int):=by rw [IntKind.wrap_u8',NE];omega
 have i3:IntKind.u8.wrap (n:Int)=((UInt8.ofNat n).toNat:Int):=by rw [IntKind.wrap_u8',IF];omega
 have HK:=zh (zn7 k hk w);have hF:=zgf Bo Aa.size (by simp) 19613 2 (by omega) (by omega)
 rw [show ((19613:Nat):Int)=19613 from rfl,show ((2:Nat):Int)=2 from rfl] at hF;have HF:=zh hF;clear hF;clear Bo Aa h hl NE IF;go_enter Tryz.func59,Tryz.ntmps59;go_wp2_with fail;refine HK.out.mono ?_;rintro e w' ⟨rfl,rfl⟩;go_wp2_with fail;refine HF.out.mono ?_;rintro e w2 ⟨v2,rfl,A5,Ae⟩;rw [List.nil_append,zmM] at A5;have Ax:w.heap.size≤w2.heap.size:=zs H1.out.2.1.size Ae.size;obtain ⟨v3,w3,XD,A6,AM⟩:=zoZ A5 (UInt8.ofNat k) (UInt8.ofNat n) (by simp) Ax
 have Am:Below w.heap.size w w3:=Below.own (H1.out.2.1.trans (Ae.mono zl)) A5 AM zl Ax;have Jq:Bs w3 (some ⟨b,o,none⟩) n l:=H1.out.2.2.1.below Am zl;obtain ⟨v4,w4,XE,Bf,DH⟩:=ziw A6 cap Jq (by simp;omega) Am.size
 have Ar:Below w.heap.size w w4:=Below.own Am A6 DH zl Am.size;obtain ⟨v5,w5,XF,AV,Bj⟩:=zlY Bf (120 - n) (by omega) (by simp [H1.out.2.2.2];omega) Ar.size
 have Ag:Below w.heap.size w w5:=Below.own Ar Bf Bj zl Ar.size;have i4:120 - (n:Int)=((120 - n:Nat):Int):=by omega
 have kB:(([157,76]++ [UInt8.ofNat k,UInt8.ofNat n])++l)++List.replicate (120 - n) 0=zcP (UInt8.ofNat k) l:=by
  unfold zcP;rw [H1.out.2.2.2];simp
 rw [kB] at AV;have Pv:=zb3 (UInt8.ofNat k) l (by rw [H1.out.2.2.2];omega)
 have PT:=AV;rw [Pv] at PT;obtain ⟨a5,c5,rfl,Sv,FG⟩:=zjh PT;have H5:=zh (zn AV (zn Ag Sv));clear A5 Ae Ax A6 AM Am Jq Bf DH Ar AV PT Bj Ag kB Pv Sv FG HF HK
 go_wp2_with (first | (at_builtin;refine za rfl _ _ _ rfl XD ?_) | (at_builtin;refine za rfl _ _ _ rfl XE ?_) | (at_builtin;refine za8 rfl _ _ _ _ rfl XF ?_))
 have AT:Below w5.heap.size w5 (w5.alloc (.cells #[.slice a5 124 c5] 25)):=zr.alloc zl _;refine (zhG w5.heap.size 0 124 c5 1 a5 (zcP (UInt8.ofNat k) l) _ (H5.out.2.2.below AT zl) (by omega) (by simp)).mono ?_
 rintro e w7 ⟨rfl,B1⟩;have EM:Below w5.heap.size w5 w7:=AT.trans (B1.mono AT.size);have FY:=zok H5.out.1 EM;have AN:=zgK (zcP (UInt8.ofNat k) l);obtain ⟨cr,BM⟩:∃cr,cr=zhF (zcP (UInt8.ofNat k) l):=⟨_,rfl⟩;have QZ:zcC (UInt8.ofNat k) l=zcP (UInt8.ofNat k) l++leN 4 cr:=by rw [BM];rfl
 rw [← BM] at AN ⊢;have Pv:=zb3 (UInt8.ofNat k) l (by rw [H1.out.2.2.2];omega)
 have Dv:IntKind.u64.wrap (cr:Int)=(cr:Int):=by simp only [IntKind.wrap,IntKind.bits,IntKind.signed];simp;omega
 have hP:=zgf FY (zs H5.out.2.1.size EM.size) (by omega) cr 4 (by omega) (by omega)
 rw [show ((4:Nat):Int)=4 from rfl] at hP;have HP:=zh hP;clear hP;have HB:=zh (zn (H5.out.2.1.trans (EM.mono H5.out.2.1.size)) QZ);clear AT B1 EM FY BM QZ AN Pv;go_wp2_with fail;refine HP.out.mono ?_;rintro e w8 ⟨v8,rfl,aG,Sj⟩;go_wp2_with fail;go_ret2;exact ⟨v8,rfl,by rw [HB.out.2];exact aG,HB.out.1.trans Sj⟩
theorem zkx (k:UInt8) (l:List UInt8) (h:l.length≤120):ziA (zcC k l)=l:=by
 unfold ziA zcC zcP;have hn:(UInt8.ofNat l.length).toNat=l.length:=by rw [UInt8.toNat_ofNat'];omega
 simp only [List.cons_append,List.drop_succ_cons,List.drop_zero,List.getD_cons_succ,List.getD_cons_zero,hn,List.append_assoc];rw [List.take_left' rfl]
theorem zi4 (k:UInt8) (hk:1≤k.toNat∧k.toNat≤6) (l:List UInt8) (h:l.length≤120):zcK (zcC k l)=true∧((zcC k l).getD 2 0)=k:=by
 have hn:(UInt8.ofNat l.length).toNat=l.length:=by rw [UInt8.toNat_ofNat'];omega
 refine ⟨?_,rfl⟩
 show (decide (1≤k.toNat) && decide (k.toNat≤6) && decide ((UInt8.ofNat l.length).toNat≤120) && (zcC k l==zcC k (((l++List.replicate (120 - l.length) 0)++leN 4 (zhF (zcP k l))).take (UInt8.ofNat l.length).toNat)))=true
 rw [hn,List.append_assoc,List.take_left' rfl];simp [hk,h]
theorem zmZ (k:UInt8) (l:List UInt8) (h:l.length≤120):(zcC k l).length=128:=by
 unfold zcC;rw [List.length_append,zb3 k l h,zed]
theorem zll {w:World} {b o:Nat} (cap k:Nat) (hk:1≤k∧k≤6) {l:List UInt8} (hl:l.length≤120) (h:Bs w (some ⟨b,o,none⟩) 128 (zcC (UInt8.ofNat k) l)) (Ep:128≤cap):
 Calls Tryz.prog 72 #[.int .i64 (k:Int), .slice (some ⟨b,o,none⟩) 128 cap] w fun e w'=> ∃v,e= .returned (.tuple #[v, .int .i64 0])∧w'.ownsRow w.heap.size 5 1 v l.length (zc l)∧Below w.heap.size w w':=by
 have Tf:(UInt8.ofNat k).toNat=k:=by rw [UInt8.toNat_ofNat'];omega
 obtain ⟨DJ,MK⟩:=zi4 (UInt8.ofNat k) (by rw [Tf];exact hk) l hl
 have DF:=zkx (UInt8.ofNat k) l hl;have HG:Hid (Calls Tryz.prog 119 #[.slice (some ⟨b,o,none⟩) 128 cap] w fun e w'=> ∃v,e= .returned (.tuple #[.int .i64 (k:Int),v, .int .i64 0])∧w'.ownsRow w.heap.size 5 1 v l.length (zc l)∧Below w.heap.size w w'):=zh ((zji b o cap _ w h Ep).mono fun e w' hE=> by
  obtain ⟨hb,he⟩:=hE;rcases he with ⟨-,v,h1,h2⟩ | ⟨h1,-⟩
  ·rw [MK,Tf] at h1;rw [DF] at h2;exact ⟨v,h1,h2,hb⟩
  ·rw [DJ] at h1;cases h1)
 clear h DJ MK DF Tf;go_enter Tryz.func72,Tryz.ntmps72;go_wp2_with fail;refine HG.out.mono ?_;rintro e w2 ⟨v,rfl,ho,hb⟩;have Aj:((k:Int) !=(k:Int))=false:=by simp
 have HO:=zh (zn ho hb);clear ho hb HG;go_wp2_with fail;go_ret2;exact ⟨v,rfl,HO.out.1,HO.out.2⟩
end
section
open Go.RowKit
structure Cfg where
 sectors:Int
 log:Int
 seq:Nat
 clock:Nat
 win:Nat
 every:Nat
structure StA where
 ph:Nat
 pt:Nat
 pa:Nat
 pd:Nat
 lg:Nat
def zcH (h:Ch) (a:StA) (cf:Cfg) (st:PS):Array Value:=#[.int .i64 (st.c.nv:Int), .int .i64 (st.c.ng:Int), .int .i64 (st.c.nb:Int), .int .u64 (st.c.fl:Int), .slice h.va st.c.vols.length h.vc, .slice h.ga st.c.groups.length h.gc, .slice h.ba st.c.books.length h.bc, .slice h.ka st.c.kept.length h.kc, .slice h.ta st.c.times.length h.tc, .pointer (some ⟨a.ph,0,none⟩), .pointer (some ⟨a.pd,0,none⟩), .int .i64 (a.lg:Int), .int .i64 cf.sectors, .int .i64 cf.log, .int .u64 (cf.seq:Int), .int .u64 (cf.clock:Int), .int .u64 (cf.win:Int), .int .u64 (cf.every:Int), .int .u64 (st.seq:Int), .int .u64 (st.clock:Int)]
structure StM (w:World) (p:Nat) (h:Ch) (a:StA) (cf:Cfg) (st:PS) (nb k:Nat) (F:List Nat) (L:List Uc) (E:Nat→Prop) (s:Nat) (lv:Value) (xs:List Sh) (ys:List Wh) (D:Nat→Prop) (Q:Nat→Prop):Prop where
 box:w.heap[p]? =some (.cells (zcH h a cf st) 60 (0,0))
 cat:zaV Q w h st.c
 hist:zaF w a.ph a.pt a.pa st.l F L nb E
 hinv:zcR nb st.l F L
 disk:zbC Q w a.pd s lv xs ys false 0 D
 dom:∀j,Q j↔j=p∨E j∨D j
 ne:¬E p∧¬D p∧∀j,E j→¬D j
 pages:∀e ∈ st.l,e.2≠0→zfD (xs.map (·.d)) (zbp ys) (a.lg+e.2+1)=zcC 6 (st.bl e.2)∧(st.bl e.2).length=64
 room:a.lg+nb+1 < xs.length∧xs.length≤4096
 many:ys.length≤k
structure StW (w:World) (p:Nat) (h:Ch) (a:StA) (cf:Cfg) (st:PS) (nb k:Nat) (Q:Nat→Prop):Prop where
 inv:StI nb st k
 nbl:nb≤4000
 kl:k≤62
 mem:∃F L E s lv xs ys D,StM w p h a cf st nb k F L E s lv xs ys D Q
section
variable {w:World} {p:Nat} {h:Ch} {a:StA} {cf:Cfg} {st:PS} {nb k:Nat} {Q:Nat→Prop} {F:List Nat} {L:List Uc} {E:Nat→Prop} {s:Nat} {lv:Value} {xs:List Sh} {ys:List Wh} {D:Nat→Prop}
theorem StM.plt (H:StM w p h a cf st nb k F L E s lv xs ys D Q):p < w.heap.size:=(zg H.box).1
theorem StM.qlt (H:StM w p h a cf st nb k F L E s lv xs ys D Q):∀j,Q j→j < w.heap.size:=fun j hj=> by
 rcases (H.dom j).1 hj with rfl | hj | hj
 ·exact H.plt
 ·exact H.hist.lt j hj
 ·exact H.disk.lt j hj
theorem StM.below {w':World} (H:StM w p h a cf st nb k F L E s lv xs ys D Q) (hb:Below w.heap.size w w'):StM w' p h a cf st nb k F L E s lv xs ys D Q:=
 ⟨(hb.block p H.plt).trans H.box,H.cat.below hb,H.hist.below hb,H.hinv,H.disk.below hb,H.dom,H.ne,H.pages,H.room,H.many⟩
end
section
variable {w:World} {p:Nat} {h:Ch} {a:StA} {cf:Cfg} {st:PS} {nb k:Nat} {Q:Nat→Prop}
theorem StW.below {w':World} (H:StW w p h a cf st nb k Q) (hb:Below w.heap.size w w'):StW w' p h a cf st nb k Q:=by
 obtain ⟨F,L,E,s,lv,xs,ys,D,hM⟩:=H.mem;exact ⟨H.inv,H.nbl,H.kl,F,L,E,s,lv,xs,ys,D,hM.below hb⟩
theorem StW.plt (H:StW w p h a cf st nb k Q):p < w.heap.size:=by
 obtain ⟨F,L,E,s,lv,xs,ys,D,hM⟩:=H.mem;exact hM.plt
theorem StW.qlt (H:StW w p h a cf st nb k Q):∀j,Q j→j < w.heap.size:=by
 obtain ⟨F,L,E,s,lv,xs,ys,D,hM⟩:=H.mem;exact hM.qlt
theorem StW.box (H:StW w p h a cf st nb k Q):w.heap[p]? =some (.cells (zcH h a cf st) 60 (0,0)):=by
 obtain ⟨F,L,E,s,lv,xs,ys,D,hM⟩:=H.mem;exact hM.box
theorem StW.cat (H:StW w p h a cf st nb k Q):zaV Q w h st.c:=by
 obtain ⟨F,L,E,s,lv,xs,ys,D,hM⟩:=H.mem;exact hM.cat
theorem StW.hist (H:StW w p h a cf st nb k Q):∃F L E,zaF w a.ph a.pt a.pa st.l F L nb E:=by
 obtain ⟨F,L,E,s,lv,xs,ys,D,hM⟩:=H.mem;exact ⟨F,L,E,hM.hist⟩
theorem StW.llen (H:StW w p h a cf st nb k Q):st.l.length≤2000:=by have:=H.inv.len;have:=H.kl;omega
theorem StW.reads (H:StW w p h a cf st nb k Q):w.cell? ⟨p,0,none⟩=some (.int .i64 (st.c.nv:Int))∧w.cell? ⟨p,1,none⟩=some (.int .i64 (st.c.ng:Int))∧w.cell? ⟨p,2,none⟩=some (.int .i64 (st.c.nb:Int))∧w.cell? ⟨p,3,none⟩=some (.int .u64 (st.c.fl:Int))∧w.cell? ⟨p,4,none⟩=some (.slice h.va st.c.vols.length h.vc)∧w.cell? ⟨p,5,none⟩=some (.slice h.ga st.c.groups.length h.gc)∧w.cell? ⟨p,6,none⟩=some (.slice h.ba st.c.books.length h.bc)∧w.cell? ⟨p,7,none⟩=some (.slice h.ka st.c.kept.length h.kc)∧w.cell? ⟨p,8,none⟩=some (.slice h.ta st.c.times.length h.tc)∧w.cell? ⟨p,9,none⟩=some (.pointer (some ⟨a.ph,0,none⟩))∧w.cell? ⟨p,10,none⟩=some (.pointer (some ⟨a.pd,0,none⟩))∧w.cell? ⟨p,11,none⟩=some (.int .i64 (a.lg:Int))∧w.cell? ⟨p,12,none⟩=some (.int .i64 cf.sectors)∧w.cell? ⟨p,13,none⟩=some (.int .i64 cf.log)∧w.cell? ⟨p,14,none⟩=some (.int .u64 (cf.seq:Int))∧w.cell? ⟨p,15,none⟩=some (.int .u64 (cf.clock:Int))∧w.cell? ⟨p,16,none⟩=some (.int .u64 (cf.win:Int))∧w.cell? ⟨p,17,none⟩=some (.int .u64 (cf.every:Int))∧w.cell? ⟨p,18,none⟩=some (.int .u64 (st.seq:Int))∧w.cell? ⟨p,19,none⟩=some (.int .u64 (st.clock:Int))∧∀j,w.frozen? ⟨p,j,none⟩=false:=by
 have hb:=H.box;exact ⟨cell_of_row w _ 0 _ _ _ hb,cell_of_row w _ 1 _ _ _ hb,cell_of_row w _ 2 _ _ _ hb,cell_of_row w _ 3 _ _ _ hb,cell_of_row w _ 4 _ _ _ hb,cell_of_row w _ 5 _ _ _ hb,cell_of_row w _ 6 _ _ _ hb,cell_of_row w _ 7 _ _ _ hb,cell_of_row w _ 8 _ _ _ hb,cell_of_row w _ 9 _ _ _ hb,cell_of_row w _ 10 _ _ _ hb,cell_of_row w _ 11 _ _ _ hb,cell_of_row w _ 12 _ _ _ hb,cell_of_row w _ 13 _ _ _ hb,cell_of_row w _ 14 _ _ _ hb,cell_of_row w _ 15 _ _ _ hb,cell_of_row w _ 16 _ _ _ hb,cell_of_row w _ 17 _ _ _ hb,cell_of_row w _ 18 _ _ _ hb,cell_of_row w _ 19 _ _ _ hb,fun j=> by simp [World.frozen?,hb]⟩
end
end
section
open Go.RowKit
theorem zdk {α:Type} {p:α→Bool}:∀{l:List α} {i:Nat} {x:α},l[i]? =some x→p x=true→(∀y ∈ l.take i,p y=false)→l.findIdx? p=some i
 | [],_,_,h,_,_=> by simp at h
 | y::l,0,x,h,hp,_=> by
   simp at h;subst h;rw [List.findIdx?_cons,hp];rfl
 | y::l,i+1,x,h,hp,hn=> by
   simp at h;rw [List.findIdx?_cons,hn y (by simp),if_neg (by simp),zdk h hp (fun z hz=> hn z (by simp [hz]))]
   rfl
theorem zdM {α:Type} {p:α→Bool} {l:List α} (h:∀y ∈ l,p y=false):l.findIdx? p=none:=List.findIdx?_eq_none_iff.2 h
theorem zbi {α:Type} {p:α→Bool}:∀{l:List α} {i:Nat},l.findIdx? p=some i→l.find? p=l[i]? ∧i < l.length
 | [],_,h=> by simp at h
 | y::l,i,h=> by
   rw [List.findIdx?_cons] at h;rw [List.find?_cons]
   split at h
   ·rename_i hp
    cases h
    rw [hp];simp
   ·rename_i hp
    have hp:p y=false:=by simpa using hp
    rw [hp];obtain ⟨j,hj,rfl⟩:=Option.map_eq_some_iff.1 h;obtain ⟨h1,h2⟩:=zbi hj;simp [h1,h2]
theorem zbt {α:Type} {p:α→Bool} {l:List α} (h:l.findIdx? p=none):l.find? p=none:=by
 rw [List.findIdx?_eq_none_iff] at h;rw [List.find?_eq_none];intro x hx;rw [h x hx];simp
end
section
open Go.RowKit
theorem zlT {W:World} {B:Nat} {o0 o1 o2:Value} {t:TypeId} (h:W.heap[B]? =some (.cells #[o0,o1,o2] t (0,0))) (v0 v1 v2:Value):(((W.setCell ⟨B,0,none⟩ v0).setCell ⟨B,1,none⟩ v1).setCell ⟨B,2,none⟩ v2).heap[B]? =some (.cells #[v0,v1,v2] t (0,0)):=by
 have e0:(W.setCell ⟨B,0,none⟩ v0).heap[B]? =some (.cells #[v0,o1,o2] t (0,0)):=heap_setCell_same _ B 0 _ _ v0 h;have e1:((W.setCell ⟨B,0,none⟩ v0).setCell ⟨B,1,none⟩ v1).heap[B]? =some (.cells #[v0,v1,o2] t (0,0)):=heap_setCell_same _ B 1 _ _ v1 e0;have e2:(((W.setCell ⟨B,0,none⟩ v0).setCell ⟨B,1,none⟩ v1).setCell ⟨B,2,none⟩ v2).heap[B]? =some (.cells #[v0,v1,v2] t (0,0)):=heap_setCell_same _ B 2 _ _ v2 e1;exact e2
theorem zaq {W w:World} {B C:Nat} (h:Below C w W) (hB:C≤B) (v0 v1 v2:Value):Below C w (((W.setCell ⟨B,0,none⟩ v0).setCell ⟨B,1,none⟩ v1).setCell ⟨B,2,none⟩ v2):=((h.setCell (p:=⟨B,0,none⟩) hB v0).setCell (p:=⟨B,1,none⟩) hB v1).setCell (p:=⟨B,2,none⟩) hB v2
theorem zbb {W:World} {B:Nat} {o0 o1 o2:Value} {t:TypeId} (h:W.heap[B]? =some (.cells #[o0,o1,o2] t (0,0))):W.cell? ⟨B,0,none⟩=some o0∧W.cell? ⟨B,1,none⟩=some o1∧W.cell? ⟨B,2,none⟩=some o2∧∀j,W.frozen? ⟨B,j,none⟩=false:=⟨cell_of_row W _ 0 _ _ _ h,cell_of_row W _ 1 _ _ _ h,cell_of_row W _ 2 _ _ _ h,fun j=> by simp [World.frozen?,h]⟩
theorem zeE {W:World} {B:Nat} {o0 o1 o2 o3 o4 o5 o6 o7 o8:Value} {t:TypeId} (h:W.heap[B]? =some (.cells #[o0,o1,o2,o3,o4,o5,o6,o7,o8] t (0,0))) (v0 v1 v2 v3 v4 v5 v6 v7 v8:Value):(((((((((W.setCell ⟨B,0,none⟩ v0).setCell ⟨B,1,none⟩ v1).setCell ⟨B,2,none⟩ v2).setCell ⟨B,3,none⟩ v3).setCell ⟨B,4,none⟩ v4).setCell ⟨B,5,none⟩ v5).setCell ⟨B,6,none⟩ v6).setCell ⟨B,7,none⟩ v7).setCell ⟨B,8,none⟩ v8).heap[B]? =some (.cells #[v0,v1,v2,v3,v4,v5,v6,v7,v8] t (0,0)):=by
 have q:=heap_setCell_same _ B 8 _ _ v8 (heap_setCell_same _ B 7 _ _ v7 (heap_setCell_same _ B 6 _ _ v6 (heap_setCell_same _ B 5 _ _ v5 (heap_setCell_same _ B 4 _ _ v4 (heap_setCell_same _ B 3 _ _ v3 (heap_setCell_same _ B 2 _ _ v2 (heap_setCell_same _ B 1 _ _ v1 (heap_setCell_same _ B 0 _ _ v0 h))))))));simp only [List.setIfInBounds_toArray,List.set_cons_zero,List.set_cons_succ] at q;exact q
theorem zG {W w:World} {B C:Nat} (h:Below C w W) (hB:C≤B) (v0 v1 v2 v3 v4 v5 v6 v7 v8:Value):Below C w (((((((((W.setCell ⟨B,0,none⟩ v0).setCell ⟨B,1,none⟩ v1).setCell ⟨B,2,none⟩ v2).setCell ⟨B,3,none⟩ v3).setCell ⟨B,4,none⟩ v4).setCell ⟨B,5,none⟩ v5).setCell ⟨B,6,none⟩ v6).setCell ⟨B,7,none⟩ v7).setCell ⟨B,8,none⟩ v8):=((((((((h.setCell (p:=⟨B,0,none⟩) hB v0).setCell (p:=⟨B,1,none⟩) hB v1).setCell (p:=⟨B,2,none⟩) hB v2).setCell (p:=⟨B,3,none⟩) hB v3).setCell (p:=⟨B,4,none⟩) hB v4).setCell (p:=⟨B,5,none⟩) hB v5).setCell (p:=⟨B,6,none⟩) hB v6).setCell (p:=⟨B,7,none⟩) hB v7).setCell (p:=⟨B,8,none⟩) hB v8
theorem zJ {W:World} {B:Nat} {o0 o1 o2 o3 o4 o5 o6 o7 o8:Value} {t:TypeId} (h:W.heap[B]? =some (.cells #[o0,o1,o2,o3,o4,o5,o6,o7,o8] t (0,0))):W.cell? ⟨B,0,none⟩=some o0∧W.cell? ⟨B,1,none⟩=some o1∧W.cell? ⟨B,2,none⟩=some o2∧W.cell? ⟨B,3,none⟩=some o3∧W.cell? ⟨B,4,none⟩=some o4∧W.cell? ⟨B,5,none⟩=some o5∧W.cell? ⟨B,6,none⟩=some o6∧W.cell? ⟨B,7,none⟩=some o7∧W.cell? ⟨B,8,none⟩=some o8∧∀j,W.frozen? ⟨B,j,none⟩=false:=⟨cell_of_row W _ 0 _ _ _ h,cell_of_row W _ 1 _ _ _ h,cell_of_row W _ 2 _ _ _ h,cell_of_row W _ 3 _ _ _ h,cell_of_row W _ 4 _ _ _ h,cell_of_row W _ 5 _ _ _ h,cell_of_row W _ 6 _ _ _ h,cell_of_row W _ 7 _ _ _ h,cell_of_row W _ 8 _ _ _ h,fun j=> by simp [World.frozen?,h]⟩
def znH (h:Option Vh):Value:=match h with
 | none=> .agg #[.int .i64 0, .int .u64 0, .slice none 0 0]
 | some x=> .agg #[.int .i64 (x.v.id:Int), .int .u64 (x.v.born:Int), .slice x.a x.v.sizes.length x.c]
theorem zev (tmps:Array Value) (B:Nat) (e v0 v1 v2:Value) (W:World) (h:tmps[4]? =some (.pointer (some ⟨B,0,none⟩))) (h5:tmps[5]? =some e) (q0:W.cell? ⟨B,0,none⟩=some v0) (q1:W.cell? ⟨B,1,none⟩=some v1) (q2:W.cell? ⟨B,2,none⟩=some v2):
 (results Tryz.f84 tmps).run Tryz.prog W= .ok (.tuple #[.agg #[v0,v1,v2],e]) W:=by
 simp [results,Tryz.results84,go_sem,h,h5,q0,q1,q2]
theorem zc2 {Q:Nat→Prop} {w:World} {h:Ch} {c:Ct} (hc:zaV Q w h c) (hn:c.vols.length≤1000000) (id:Int):
 Calls Tryz.prog 84 #[h.val c, .int .i64 id] w fun e w'=> (∃x,x=h.vl.find? (fun x=> decide ((x.v.id:Int)=id))∧e= .returned (.tuple #[znH x, .bool x.isSome]))∧Below w.heap.size w w':=by
 have Ac:h.vl.length=c.vols.length:=by rw [← hc.volsE,List.length_map]
 have Ah:=hc.vols.row.row;rw [Ac] at Ah;obtain ⟨w1,Ab⟩:∃w1,w1=(w.alloc (.cells (h.cells c) 54)).alloc (.cells #[.int .i64 0, .int .u64 0, .slice none 0 0] 144):=⟨_,rfl⟩;have Aa:Below w.heap.size w w1:=by rw [Ab];exact (zr.alloc zl _).alloc (by simp) _
 have Ai:w1.heap.size=w.heap.size+2:=by rw [Ab,World.alloc_size,World.alloc_size]
 have hX:w1.heap[w.heap.size]? =some (.cells (h.cells c) 54 (0,0)):=by rw [Ab,Below.heap_alloc _ _ _ (by simp)];exact heap_alloc_new w _
 have hY:w1.heap[w.heap.size+1]? =some (.cells #[.int .i64 0, .int .u64 0, .slice none 0 0] 144 (0,0)):=by
  have:=heap_alloc_new (w.alloc (.cells (h.cells c) 54)) (.cells #[.int .i64 0, .int .u64 0, .slice none 0 0] 144);rw [World.alloc_size] at this;rw [Ab];exact this
 unfold Ch.cells at hX;have x4:=cell_of_row w1 _ 4 _ _ _ hX;have x4':w1.cell? ⟨w.heap.size,4,none⟩=some (.slice h.va c.vols.length h.vc):=x4;have H:=zh (Ah.below Aa zl);have Ak:=zh (zn Aa (zn Ai hY));have HL:=zh Ac;unfold Ch.val;unfold Ch.cells at *;clear hc Ah Aa Ai hX hY x4 Ac;generalize E9:c.vols.length=n at *;clear E9;generalize h.va=va at *;generalize h.vl=vl at *;go_enter Tryz.func84,Tryz.ntmps84;go_wp2_with fail;rw [← Ab];clear Ab;go_wp2_with fail;clear x4'
 go_loopw [11] (fun u wr=> ∃i:Nat,i≤n∧u= .int .i64 i∧(∀y ∈ vl.take i,decide ((y.v.id:Int)=id)=false)∧Below w1.heap.size w1 wr) (fun u _=> n - (intOf u).toNat)
 case atStart=> exact ⟨0,by omega,rfl,by simp,Below.refl _ _⟩
 case round=>
  obtain ⟨i,hi,rfl,hR,hb⟩:=hrel;have HR:=zh hR;have HB:=zh hb;have Ef:=(hb.block (w.heap.size+1) (by have:=Ak.out.2.1;omega)).trans Ak.out.2.2
  obtain ⟨t0,t1,t2,tf⟩:=zbb Ef;have f0:=tf 0;have f1:=tf 1;have f2:=tf 2;have HV:=zh Ef;have ME:w.heap.size+1 < wr.heap.size:=(zg Ef).1;clear hR tf Ef
  by_cases hlt:i < n
  ·have Bb:(i:Int) < (n:Int):=by omega
   have AD:(0:Int)≤(i:Int):=by omega
   obtain ⟨x,hx⟩:∃x,vl[i]? =some x:=⟨_,ze (by have:=HL.out;omega)⟩
   obtain ⟨b,o,rfl,hc⟩:=(H.out.below hb zl).2 i x hx;have c0:=hc 0 _ rfl;have c1:=hc 1 _ rfl;have c2:=hc 2 _ rfl;simp only [Nat.add_zero] at c0;have HX:=zh hx;clear hx hc hb
   by_cases hd:(x.v.id:Int)=id
   ·have z:((x.v.id:Int)==id)=true:=by rw [hd];simp
    have HF:=zh ((zbi (zdk HX.out (decide_eq_true hd) HR.out)).1.trans HX.out);clear hd;go_wp2_with fail;have hk:=zlT HV.out (.int .i64 (x.v.id:Int)) (.int .u64 (x.v.born:Int)) (.slice x.a x.v.sizes.length x.c);have hs:=zbb ((Below.heap_alloc _ (.cells #[.int .i64 (x.v.id:Int), .int .u64 (x.v.born:Int), .slice x.a x.v.sizes.length x.c] 144) _ (zg hk).1).trans hk);have Au:=zaq (Ak.out.1.trans (HB.out.mono (by have:=Ak.out.2.1;omega))) (show w.heap.size≤w.heap.size+1 by omega) (.int .i64 (x.v.id:Int)) (.int .u64 (x.v.born:Int)) (.slice x.a x.v.sizes.length x.c)
    refine bodyPost_ret (zev _ (w.heap.size+1) _ _ _ _ _ rfl rfl hs.1 hs.2.1 hs.2.2.1) rfl ?_;exact ⟨⟨some x,HF.out.symm,rfl⟩,Au.alloc Au.size _⟩
   ·have z:((x.v.id:Int)==id)=false:=by rw [beq_eq_false_iff_ne];exact hd
    have HF:Hid (∀y ∈ vl.take (i+1),decide ((y.v.id:Int)=id)=false):=zh fun y hy=> by
     rw [List.take_add_one,HX.out] at hy;rcases List.mem_append.1 hy with hy | hy
     ·exact HR.out y hy
     ·simp at hy;subst hy;exact decide_eq_false hd
    clear hd;go_wp2_with fail
    go_roundw
    case rel=> exact ⟨i+1,by omega,by go_num,HF.out,HB.out.alloc HB.out.size _⟩
    case measure=> simp [intOf];omega
  ·obtain rfl:n=i:=by omega
   have HF:=zh (zbt (zdM (l:=vl) (p:=fun x=> decide ((x.v.id:Int)=id)) (fun y hy=> HR.out y (by rw [zk (by have:=HL.out;omega)];exact hy))))
   clear hb;go_wp2_with fail;have hs:=zbb (zlT HV.out (.int .i64 0) (.int .u64 0) (.slice none 0 0));refine bodyPost_ret (zev _ (w.heap.size+1) _ _ _ _ _ rfl rfl hs.1 hs.2.1 hs.2.2.1) rfl ?_;exact ⟨⟨none,HF.out.symm,rfl⟩,zaq (Ak.out.1.trans (HB.out.mono (by have:=Ak.out.2.1;omega))) (by omega) _ _ _⟩
def zp4 {W:World} {B:Nat} {o0 o1 o2 o3 o4 o5 o6 o7 o8:Value} {t:TypeId} (H:W.heap[B]? =some (.cells #[o0,o1,o2,o3,o4,o5,o6,o7,o8] t (0,0))) (h:Ch) (c:Ct):=zeE H (.int .i64 (c.nv:Int)) (.int .i64 (c.ng:Int)) (.int .i64 (c.nb:Int)) (.int .u64 (c.fl:Int)) (.slice h.va c.vols.length h.vc) (.slice h.ga c.groups.length h.gc) (.slice h.ba c.books.length h.bc) (.slice h.ka c.kept.length h.kc) (.slice h.ta c.times.length h.tc)
def zp2 {W w:World} {B C:Nat} (H:Below C w W) (hB:C≤B) (h:Ch) (c:Ct):=zG H hB (.int .i64 (c.nv:Int)) (.int .i64 (c.ng:Int)) (.int .i64 (c.nb:Int)) (.int .u64 (c.fl:Int)) (.slice h.va c.vols.length h.vc) (.slice h.ga c.groups.length h.gc) (.slice h.ba c.books.length h.bc) (.slice h.ka c.kept.length h.kc) (.slice h.ta c.times.length h.tc)
end
section
open Go.RowKit
theorem zhi {l:List Mk} {j:Nat} {x:Mk} (hl:l.length=j+1) (hx:l[j]? =some x):zas l=x.2∧l.getLast? =some x:=by
 have:l.getLast? =some x:=by rw [List.getLast?_eq_getElem?,hl];exact hx
 unfold zas;rw [this];exact ⟨rfl,rfl⟩
theorem zii {w:World} {a:Option Addr} {n c:Nat} {l:List Mk} (h:zM zbZ 2 w a n l) (hn:n≤1000000) (hf:∀m ∈ l,m.2≤32):
 Calls Tryz.prog 117 #[.slice a n c] w fun e w'=> e= .returned (.int .i64 (zas l:Nat))∧w'=w:=by
 have hl:=h.1
 cases n with
 | zero=>
   have Dm:l= []:=List.eq_nil_of_length_eq_zero hl;subst Dm;clear h hl hf;go_enter Tryz.func117,Tryz.ntmps117;go_wp2_with fail;go_ret;exact ⟨rfl,rfl⟩
 | succ k=>
   obtain ⟨x,hx⟩:∃x,l[k]? =some x:=⟨_,ze (by omega)⟩
   obtain ⟨g,o,rfl,hc⟩:=h.2 k x hx;have c1:=hc 1 _ rfl;have bi:=hf x (zm hx);have HS:=zh (zhi hl hx).1;have z1:IntKind.i64.wrap (k:Int)=(k:Int):=zw _ (by omega)
   have z2:IntKind.i64.wrap (x.2:Int)=(x.2:Int):=zw _ (by omega)
   have z3:((k:Int)+1==0)=false:=by rw [beq_eq_false_iff_ne];omega
   have z4:(k:Int) < (k:Int)+1:=by omega
   have z5:(0:Int)≤(k:Int):=by omega
   clear h hl hf hc hx;go_enter Tryz.func117,Tryz.ntmps117;go_wp2_with fail;go_ret;exact ⟨by rw [HS.out];rfl,rfl⟩
end
end Go.Proofs.YtfldlfladcfggaaGreat
