/- Lemmas of the walks, merged and pressed by press.py. Conditions: those of each theorem. -/
import Derived.Test.YtaoceecfjlkmdaaGreatM22
import Derived.Deep.RegionWith
import Derived.Deep.RegionHeld3
import Derived.Test.YtaoceecfjlkmdaaGreatM20
import Derived.Test.YtaoceecfjlkmdaaGreatM5
import Derived.Test.YtaoceecfjlkmdaaGreatM17
set_option maxRecDepth 100000
set_option maxHeartbeats 64000000
set_option linter.all false
namespace Go.Proofs.YtaoceecfjlkmdaaGreat
open Tryz
variable {acc:List UInt8} {b base n:Nat} {v:Value} {w w':World}
section
open Go.RowKit
def zcP (k:UInt8) (body:List UInt8):List UInt8:=157::76::k::UInt8.ofNat body.length::(body++List.replicate (120 - body.length) 0)
def zcC (k:UInt8) (body:List UInt8):List UInt8:=zcP k body++leN 4 (zhF (zcP k body))
def zcK (l:List UInt8):Bool:=
 match l with
 | _::_::k::n::r=> decide (1<=k.toNat) && decide (k.toNat<=6) && decide (n.toNat<=120) && (l==zcC k (r.take n.toNat))
 | _=> false
def zgB (l:List UInt8):Bool:=
 match l with
 | a::b::k::n::r=> decide (a=157) && decide (b=76) && (decide (1<=k.toNat) && decide (k.toNat<=6)) && decide (n.toNat<=120) && ((r.drop n.toNat).take (120 - n.toNat)).all (· ==0) && decide (zbm (l.drop 124)=zhF (l.take 124))
 | _=> false
theorem znP {l:List UInt8} (h:l.all (· ==0)=true):l=List.replicate l.length 0:=by
 apply List.eq_replicate_iff.2
 refine ⟨rfl,fun b hb=> ?_⟩;have:=List.all_eq_true.1 h b hb
 simpa using this
theorem zb3 (k:UInt8) (body:List UInt8) (h:body.length<=120):(zcP k body).length=124:=by
 simp [zcP];omega
theorem zix (l:List UInt8) (hl:l.length=128):zgB l=zcK l:=by
 match l,hl with
 | a :: b::k::n::r,hl=>
   have hr:r.length=124:=by simpa using hl
   rw [Bool.eq_iff_iff];simp only [zgB,zcK,Bool.and_eq_true,decide_eq_true_eq,beq_iff_eq]
   constructor
   ·rintro ⟨⟨⟨⟨⟨rfl,rfl⟩,h1,h2⟩,h3⟩,h4⟩,h5⟩;refine ⟨⟨⟨h1,h2⟩,h3⟩, ?_⟩;have ht:(r.take n.toNat).length=n.toNat:=by rw [List.length_take];omega
    have hz:=znP h4;rw [List.length_take,List.length_drop,show min (120 - n.toNat) (r.length - n.toNat)=120 - n.toNat by omega] at hz
    have DI:zcP k (r.take n.toNat)=(157::76::k::n::r).take 124:=by
        unfold zcP;rw [ht,<- hz,show (124:Nat)=120+1+1+1+1 from rfl];simp only [List.take_succ_cons];rw [show UInt8.ofNat n.toNat=n from UInt8.ofNat_toNat]
        congr 4
        conv=> rhs;rw [show (120:Nat)=n.toNat+(120 - n.toNat) by omega,List.take_add]
    unfold zcC;rw [DI];have EY:(157::76::k::n::r:List UInt8).drop 124=leN 4 (zhF ((157::76::k::n::r:List UInt8).take 124)):=by
        apply zhY
        ·rw [zed];simp [hr]
        rw [h5,zmN];have:=zgK ((157::76::k::n::r:List UInt8).take 124)
        omega
    rw [<- EY,List.take_append_drop]
   rintro ⟨⟨⟨h1,h2⟩,h3⟩,he⟩;have ht:(r.take n.toNat).length=n.toNat:=by rw [List.length_take];omega
   have Pv:=zb3 k (r.take n.toNat) ud;have DI:(a::b::k::n::r).take 124=zcP k (r.take n.toNat):=by
       rw [he];unfold zcC;rw [List.take_left' Pv]
   have EY:(a::b::k::n::r).drop 124=leN 4 (zhF (zcP k (r.take n.toNat))):=by
       conv=> lhs;rw [he]
       unfold zcC;rw [List.drop_left' Pv]
   have Pt:=DI;unfold zcP at Pt;rw [ht,show (124:Nat)=120+1+1+1+1 from rfl] at Pt;simp only [List.take_succ_cons,List.cons.injEq] at Pt;obtain ⟨rfl,rfl,_,_,hb⟩:=Pt;refine ⟨⟨⟨⟨⟨rfl,rfl⟩,h1,h2⟩,h3⟩, ?_⟩, ?_⟩
   ·have:(r.drop n.toNat).take (120 - n.toNat)=List.replicate (120 - n.toNat) 0:=by
     have h6:r.take 120=r.take n.toNat++(r.drop n.toNat).take (120 - n.toNat):=by
      conv=> lhs;rw [show (120:Nat)=n.toNat+(120 - n.toNat) by omega,List.take_add]
     rw [h6] at hb;exact List.append_cancel_left hb
    rw [this];simp
   rw [EY,zmN _ _ (by have:=zgK (zcP k (r.take n.toNat));omega),<- DI]
theorem zpM {l:List UInt8} (h:l.length=128):∃a b k n r,l=a::b::k::n::r/\r.length=124:=by
 match l,h with
 | a::b::k::n::r,h=> exact ⟨a,b,k,n,r,rfl,by simpa using h⟩
def ziA (l:List UInt8):List UInt8:=(l.drop 4).take (l.getD 3 0).toNat
def znI (l:List UInt8) (w:World) (e:Ending) (w':World):Prop:=
 θ w w w'/\((zcK l=true/\∃v,e=ρ (.tuple #[ι ((l.getD 2 0).toNat),v,ι 0])/\w'.ownsRow ↑w 5 1 v (ziA l).length (zc (ziA l)))\/(zcK l=false/\∃f:Nat,f≠0/\e=ρ (.tuple #[ι 0,σ none 0 0,↑f])))
theorem zj3 (k:Nat) (w:World):χ 110 #[↑k] w fun e w'=> e=ρ (.bool (decide (1<=k) && decide (k<=6)))/\w=w':=by
 by_cases h1:1<=k
 ·have h1i:(1:Int)<=(k:Int):=ud
  by_cases h2:k<=6
  ·have h2i:(k:Int)<=6:=ud
   go_in;go_wp2;go_ret;exact ⟨by simp [*],rfl⟩
  have h2i:¬(k:Int)<=6:=ud
  go_in;go_wp2;go_ret;exact ⟨by simp [*],rfl⟩
 have h1i:¬(1:Int)<=(k:Int):=ud
 go_in;go_wp2;go_ret;exact ⟨by simp [*],rfl⟩
theorem zji (b o cap:Nat) (l:List UInt8) (w:World) (h:Bs w (some (b o ())) 128 l) (Ep:128<=cap):
 χ 81 #[σ (some (b o ())) 128 cap] w (znI l w):=by
 have Sc:=zix l h.length;obtain ⟨x0,x1,k,n,r,rfl,hr⟩:=zpM h.length;obtain ⟨b2,o2,k',e2,FU,GB,E8⟩:=Bs.cell h 2 ud
 cases e2
 obtain ⟨b3,o3,n',e3,IE,DR,_⟩:=Bs.cell h 3 ud
 cases e3
 simp at FU IE;subst FU IE;have hA:zgB (x0::x1::k::n::r)=(decide (x0=157) && decide (x1=76) && (decide (1<=k.toNat) && decide (k.toNat<=6)) && decide (n.toNat<=120) && ((r.drop n.toNat).take (120 - n.toNat)).all (· ==0) && decide (zbm ((x0::x1::k::n::r).drop 124)=zhF ((x0::x1::k::n::r).take 124))):=rfl;rw [Sc] at hA;have hG:((x0::x1::k::n::r).getD 2 0)=k:=rfl;have Fh:((x0::x1::k::n::r).getD 3 0).toNat=n.toNat:=rfl;have h2:=Bs.piece h 0 2 ud;rw [Nat.add_zero,List.drop_zero] at h2;have hz:=fun (hn:n.toNat<=120)=> Bs.piece h (4+n.toNat) (120 - n.toNat) ud;rw [show (x0::x1::k::n::r).drop (4+n.toNat)=r.drop n.toNat by rw [Nat.add_comm];rfl] at hz
 have GA:=fun (hn:n.toNat<=120)=> Bs.piece h 4 n.toNat ud;have DI:=Bs.piece h 0 124 ud;rw [Nat.add_zero,List.drop_zero] at DI;have EY:=Bs.tail h 124 ud;have hmagic:zbm ((x0::x1::k::n::r).take 2)=x0.toNat+256 * x1.toNat:=by simp [zbm]
 have Pq:=zge (some (b o ())) 2 cap _ w h2 ud ud;rw [hmagic] at Pq;obtain ⟨l,hl⟩:∃l,l=x0::x1::k::n::r:=⟨_,rfl⟩;rw [<- hl] at hA hG Fh DI h EY GA ⊢;have HA:=zh hA;have HG:=zh hG;have M3:=zh Fh;have HB:=zh h;have HZ:=zh hz;have Gn:=zh GA;have Fz:=zh DI;have Eb:=zh EY;have JY:=zh Pq;have ED:=k.toNat_lt;have C5:=n.toNat_lt;have h0b:=x0.toNat_lt;have h1b:=x1.toNat_lt;have Ab:IntKind.i64.wrap (k.toNat:Int)=k.toNat:=zw _ ud;have GV:IntKind.i64.wrap (n.toNat:Int)=n.toNat:=zw _ ud;have Dv:IntKind.i64.wrap (4+(n.toNat:Int))=4+n.toNat:=zw _ ud;clear hA hG Fh GA DI h hl hr EY Pq hz Sc h2 hmagic
 by_cases Vq:x0=157/\x1=76
 ·obtain ⟨rfl,rfl⟩:=Vq;have KA:=zj3 k.toNat w;obtain ⟨kd,kR⟩:∃kd,(decide (1<=k.toNat) && decide (k.toNat<=6))=kd:=⟨_,rfl⟩;rw [kR] at KA HA;have Ip:=zh KA;clear KA kR
  cases kd
  ·have Fu:zcK l=false:=by rw [HA.out];simp
   have I2:=zh Fu;clear Fu HA HZ Gn Fz Eb;go_in;go_wp2_with fail;refine JY.out.mono ?_;rintro e w1 ⟨rfl,rfl⟩;go_wp2_with fail;refine Ip.out.mono ?_;rintro e w1 ⟨rfl,rfl⟩;go_wp2
   go_ret3
   exact ⟨Below.refl _ _, .inr ⟨I2.out,21,ud,rfl⟩⟩
  by_cases hn:n.toNat<=120
  ·rw [decide_eq_true hn] at HA;have Ob:=HZ.out hn;have LF:=zh (Gn.out hn);have Vs:(n.toNat:Int)<=120:=ud;obtain ⟨Z,hZ⟩:∃Z,Z=(r.drop n.toNat).take (120 - n.toNat):=⟨_,rfl⟩;rw [<- hZ] at HA Ob;have WS:=zh Ob;have H8:¬cap=4+n.toNat:=ud;have yC:¬cap=124:=ud;have yD:¬cap=4:=ud;have Ci:120 - (n.toNat:Int)=((120 - n.toNat:Nat):Int):=ud;have E9:124 - (4+n.toNat)=120 - n.toNat:=ud;clear hZ Ob Gn HZ;generalize n.toNat=nn at *;go_in;go_wp2_with fail;refine JY.out.mono ?_;rintro e w1 ⟨rfl,rfl⟩;go_wp2_with fail;refine Ip.out.mono ?_;rintro e w1 ⟨rfl,rfl⟩;go_wp2_with fail;have F5:=WS.out.length;have Z4:=zh F5;clear F5 JY Ip DR
   go_loop [36] (fun u36=> ∃j:Nat,j<=120 - nn/\u36= ι j/\Hid ((Z.take j).all (· ==0)=true)) (fun u36=> (120 - nn) - (intOf u36).toNat)
   case atStart=> exact ⟨0,ud,rfl,zh rfl⟩
   case round=>
    obtain ⟨j,hj,rfl,HJ⟩:=hrel
    by_cases hlt:j < 120 - nn
    ·obtain ⟨_,_,c,e1,hc,yB,_⟩:=Bs.cell WS.out j hlt
     cases e1
     have MA:(0:Int)<=(j:Int):=ud;have EB:(j:Int) < ((124 - (4+nn):Nat):Int):=ud;have EC:(j:Int) < ((120 - nn:Nat):Int):=ud;have Aq:=byte0 c
     by_cases Em:c=0
     ·have hb:=Aq.1 Em;have DU:(Z.take (j+1)).all (· ==0)=true:=by
       rw [List.take_add_one,hc,List.all_append,HJ.out,Em];rfl
      have HN:=zh DU;subst Em;clear hc Aq HJ DU;go_wp2_with fail;exact ⟨⟨j+1,ud,by go_num,HN⟩,by simp [intOf];omega⟩
     have hb:=Aq.2 Em;have Uv:Z.all (· ==0)=false:=by
      rw [List.all_eq_false];exact ⟨c,zm hc,by simpa using Em⟩
     have Fu:zcK l=false:=by rw [HA.out,Uv];simp
     have I2:=zh Fu;clear hc Aq HJ Uv Fu HA Em;go_wp2
     go_ret3
     exact ⟨Below.refl _ _, .inr ⟨I2.out,21,ud,rfl⟩⟩
    have yY:j=120 - nn:=ud;subst yY;have Uv:Z.all (· ==0)=true:=by
     have:=HJ.out
     rwa [zk (by rw [Z4.out];omega)] at this
    have hP:zcK l=decide (zbm (l.drop 124)=zhF (l.take 124)):=by rw [HA.out,Uv];simp
    have AN:=zgK (l.take 124);have NH:(l.drop 124).length=4:=by rw [List.length_drop,HB.out.length]
    have FL:=zgZ (l.drop 124);rw [NH] at FL;obtain ⟨lv,MF⟩:∃lv,lv=zbm (l.drop 124):=⟨_,rfl⟩;obtain ⟨cr,BM⟩:∃cr,cr=zhF (l.take 124):=⟨_,rfl⟩;rw [<- MF,<- BM] at hP;rw [<- MF] at FL;rw [<- BM] at AN;have Wp:=zh MF;have Ds:=zh BM;have HP:=zh hP;have Zv:IntKind.u32.wrap (lv:Int)=lv:=by rw [IntKind.wrap_u32'];omega
    have Aa:θ w w (w.alloc (.cells #[σ (some (b o ())) 124 cap] 33)):=zr.alloc zl _;have BC:Bs w.drew (some (b (o+124) ())) 4 (l.drop 124):=Eb.out.below zr.drew zl;have A9:Bs (w.alloc (.cells #[σ (some (b o ())) 124 cap] 33)).drew (some (b (o+124) ())) 4 (l.drop 124):=Eb.out.below Aa.drew zl;have Ng:Bs (w.alloc (.cells #[σ (some (b o ())) 124 cap] 33)).drew (some (b o ())) 124 (l.take 124):=Fz.out.below Aa.drew zl;have jb:(w.alloc (.cells #[σ (some (b o ())) 124 cap] 33)).drew w=some (σ (some (b o ())) 124 cap):=uh;have Ae:=Aa.drew;clear MF BM hP Uv NH HA HJ WS Z4;go_wp2_with fail
    go_region_with (first
     | (go_at_call 127
        refine (zge (some (b (o+124) ())) 4 (cap - 124) (l.drop 124) _ (by with_reducible first | exact BC | exact A9 | exact CA) ud ud).mono ?_
        rintro e w3 ⟨rfl,rfl⟩;simp only [<- Wp.out])
     | (go_at_call 112
        refine (zhG ↑w 0 124 cap 1 (some (b o ())) (l.take 124) _ (by with_reducible exact Ng) ud (by with_reducible exact jb)).mono ?_
        rintro e w4 ⟨rfl,Am⟩;have Ar:=Ae.trans (Am.mono Ae.size);have CA:Bs w4 (some (b (o+124) ())) 4 (l.drop 124):=Eb.out.below Ar zl;simp only [<- Ds.out]))
    all_goals
     clear BC A9 Ng jb Aa Ae Am CA
     by_cases Lt:lv=cr
     ·have Fu:zcK l=true:=by rw [HP.out,decide_eq_true Lt]
      have I2:=zh Fu;subst Lt;have Aj:((lv:Int) !=(lv:Int))=false:=uh;have C6:(0:Int)<=4+(nn:Int):=ud;have GP:4+(nn:Int)<=(cap:Int):=ud;have Jq:(4:Int)<=max (4+(nn:Int)) 0:=ud;have GQ:(4+(nn:Int)).toNat - 4=nn:=ud;have yz:w4 (b (o+2) ())=some (ω k.toNat):=by rw [Ar.cell E8];exact GB
      have F8:Bs w4.drew (some (b (o+4) ())) nn (List.take nn (List.drop 4 l)):=LF.out.below Ar.drew zl;have EU:w4.drew.ownsRow ↑w 5 1 (σ none 0 0) ([]:List UInt8).length (zc []):=World.ownsRow_nil _ _ _ _;obtain ⟨v',w5,BE,NQ,BN⟩:=ziw EU (cap - 4) F8 uo Ar.drew.size;have Ww:Hid (w5.ownsRow ↑w 5 1 v' (ziA l).length (zc (ziA l))):=zh (by unfold ziA;rw [M3.out];exact NQ)
      have AT:θ w w w5:=Below.own Ar.drew EU BN zl Ar.drew.size;have XU:w5 (b (o+2) ())=some (ω k.toNat):=by rw [AT.cell E8];exact GB
      clear Fu F8 BN EU NQ HP Wp Ds LF Fz Eb HB GB;go_wp2_with fail;simp only [Act.put,List.getElem_toArray,List.getElem_cons_zero,List.getElem_cons_succ,zSs]
      first
             | (go_region_held3 (fun w'=> w' (b (o+2) ())=some (ω k.toNat))
                  (first | exact hHeld | exact XU | go_keep)
                  (first | refine zfG (o:=⟨some 60,_,_,_,_,_⟩) ue _ _ _ rfl BE ?_))
             | fail "no region"
      all_goals
             go_wp2
             go_ret3
             exact ⟨AT, .inl ⟨I2.out,_,by rw [HG.out];rfl,Ww.out⟩⟩
     have Fu:zcK l=false:=by rw [HP.out,decide_eq_false Lt]
     have I2:=zh Fu;have Aj:((lv:Int) !=(cr:Int))=true:=uo;clear Fu HP Wp Ds LF Fz Eb HB;go_wp2
     go_ret3
     exact ⟨Ar, .inr ⟨I2.out,22,ud,rfl⟩⟩
  have Fu:zcK l=false:=by rw [HA.out];simp [hn]
  have I2:=zh Fu;have Vs:¬(n.toNat:Int)<=120:=ud;clear Fu HA HZ Gn Fz Eb;go_in;go_wp2_with fail;refine JY.out.mono ?_;rintro e w1 ⟨rfl,rfl⟩;go_wp2_with fail;refine Ip.out.mono ?_;rintro e w1 ⟨rfl,rfl⟩;go_wp2
  go_ret3
  exact ⟨Below.refl _ _, .inr ⟨I2.out,21,ud,rfl⟩⟩
 have Fu:zcK l=false:=by
  rw [HA.out]
  by_cases e0:x0=157
  ·have e1:¬x1=76:=fun e=> Vq ⟨e0,e⟩;simp [e1]
  simp [e0]
 have ci:¬(((x0.toNat+256 * x1.toNat:Nat):Int)=19613):=by
  intro e;exact Vq ⟨UInt8.toNat_inj.1 (by show x0.toNat=157;omega),UInt8.toNat_inj.1 (by show x1.toNat=76;omega)⟩
 have I2:=zh Fu;generalize x0.toNat+256 * x1.toNat=mg at *;clear Fu HA HZ Gn Fz Eb Vq;go_in;go_wp2_with fail;refine JY.out.mono ?_;rintro e w1 ⟨rfl,rfl⟩;go_wp2
 go_ret3
 exact ⟨Below.refl _ _, .inr ⟨I2.out,21,ud,rfl⟩⟩
end
section
open Go.RowKit
theorem zc7 {P:Program} (w:World) (t tn ty e:TypeId) (i:TypeInfo) (z:Value) (kq kn:IntKind) (ht:P.underlying t=some (.slice e)) (aX:P.underlying tn=some (.int kn)) (hi:P.info? e=some i) (hz:i.zero=some z)
 (g sLen sCap:Nat) (cur:Array Value) (hg:w.heap[g]? =some (.cells cur e (0,0))) (k:Nat) (h0:0 < k) (hs:i.size=1) (h1:z.oneCell'=true) (Gk:z.cells=#[z])
 (EW:sLen+k<=sCap) (Z7:(k:Int)<=9223372036854775807) (bN:k * i.bytes<=281474976710656) (FR:sLen+k<=cur.size):
 (Builtin.append_ #[t,tn] ty #[.slice (some ⟨g,0,none⟩) sLen sCap, .int kq k]).run P w=
   .ok (.slice (some ⟨g,0,none⟩) (sLen+k) sCap) (w.setRow g (cur.toList.take sLen++(Builtin.zeroCells z.cells k).toList++cur.toList.drop (sLen+k)).toArray):=by
 have hk:k≠0:=by omega
 have hw:IntKind.i64.wrap (k:Int)=k:=by rw [IntKind.wrap_i64];omega
 have h48i:¬(281474976710656 < (k:Int) * (i.bytes:Int)):=by
  rw [<- Int.natCast_mul]
  omega
 have YN:¬((k:Int) < 0):=by omega
 have Ac:(Builtin.zeroCells z.cells k).toList.length=k:=by rw [Array.length_toList,size_zeroCells,Gk];simp
 have Bq:∀v ∈ (Builtin.zeroCells z.cells k).toList,v.oneCell'=true:=by
  intro v hv;rw [Gk] at hv;simp [Builtin.zeroCells,Nat.mod_one] at hv;obtain ⟨_,_,rfl⟩:=hv;exact h1
 have AO:=run_storeCells_at P g sLen e (Builtin.zeroCells z.cells k).toList 0 cur w hg (by rw [Ac];omega) Bq
 simp only [Nat.add_zero,Ac] at AO;simp [Builtin.append_,run_underlying ht,run_underlying aX,sizeOf,typeInfo,zeroValue,hi,hz,asInt,asIntOf,hw,YN,hk,EW,h48i,hs,Addr.add_lit,AO]
theorem zda (k:Nat):(Builtin.zeroCells (Value.int .u8 0).cells k).toList=zc (List.replicate k 0):=by
 apply List.ext_getElem
 ·simp [Builtin.zeroCells,zc,Value.cells]
 intro j h1 h2;simp [Builtin.zeroCells,zc,Value.cells,Nat.mod_one]
theorem zlY (Af:w.ownsRow base 5 1 v acc.length (zc acc)) (k:Nat) (h0:0 < k)
 (Ac:acc.length+k<=100000000000) (Cx:base<=↑w):
 ∃v' w',(Builtin.append_ #[33,3] 33 #[v,↑k]).run prog w= .ok v' w'/\w'.ownsRow base 5 1 v' (acc++List.replicate k 0).length (zc (acc++List.replicate k 0))/\w.grownBy w' v.ownBlock:=by
 obtain ⟨i0,hi,AG,Ai,Ax⟩:=info_parts zi2;have AN:(zc acc).length=acc.length:=by simp [zc]
 have F5:(Builtin.zeroCells (Value.int .u8 0).cells k).size=k:=by rw [size_zeroCells];simp [Value.cells]
 have GH:(acc++List.replicate k 0).length=acc.length+k:=uh;rw [GH,zbY];rcases Af.2 with ⟨rfl,h2⟩ | ⟨g,cap,cur,rfl,Bc,hg,Ge,Ce,Fo,CY⟩
 ·have XB:acc= []:=List.eq_nil_of_length_eq_zero h2;subst XB;have hr:=Lib.run_append_nil_zeros (P:=prog) w 33 3 33 5 i0 (ω 0) .i64 .i64 Tryz.underlying33 Tryz.underlying3 hi AG k h0 ud ud uQ;have JH:=grownCap_ge w k 0 5;have Ce:grownCap w k 0 5<=maxLen:=grownCap_le_maxLen w k 0 5 ur;refine ⟨_,_,hr,⟨by simp [zc], .inr ⟨↑w,_,_,uh,Cx,heap_alloc_new w.drew _,by simpa using JH,Ce, ?_, ?_⟩⟩,⟨rfl,rfl,rfl,uh,fun j hj _=> by first | exact Below.heap_alloc w.drew _ _ hj | exact Below.heap_alloc w.drew _ _ hj⟩⟩
  ·rw [Array.size_append,F5,size_zeroCells];simp [Value.cells];omega
  rw [Array.toList_append,zda];simp [zc]
 have Nw:cur.size=cap:=ud
 by_cases EW:acc.length+k<=cap
 ·have hr:=zc7 (P:=prog) w 33 3 33 5 i0 (ω 0) .i64 .i64 Tryz.underlying33 Tryz.underlying3 hi AG g acc.length cap cur hg k h0 Ai rfl rfl EW ud uQ ud;refine ⟨_,_,hr,⟨by simp [zc], .inr ⟨g,cap,_,rfl,Bc,setRow_heap w g cur _ 5 _ hg,EW,Ce, ?_, ?_⟩⟩,⟨rfl,rfl,rfl,uh,fun j _ hj=> setRow_other w g j _ (fun e=> hj (by simp [Value.ownBlock,e]))⟩⟩
  ·simp only [List.size_toArray,List.length_append,List.length_take,List.length_drop,Array.length_toList,F5]
   omega
  rw [Nat.mul_one] at CY;rw [CY,zda,Nat.mul_one];have:acc.length+k=(zc acc++zc (List.replicate k 0)).length:=by simp [zc]
  rw [this];exact List.take_left
 have IG:(Builtin.firstCells i0.size acc.length (σ (some ↑g) acc.length cap)).run prog w.drew= .ok (zc acc).toArray w.drew:=by
      rw [Ai];exact run_firstCells_some (P:=prog) w.drew 1 acc.length ↑g acc.length cap (zc acc) (by simp [zc]) (Af.drew.cells (g:=g) rfl)
 have hr:=Lib.run_append_grow_zeros (P:=prog) w 33 3 33 5 i0 (ω 0) .i64 .i64 Tryz.underlying33 Tryz.underlying3 hi AG (some ↑g) acc.length cap (zc acc) IG k h0 ud ud ud uQ (growslice_fits ud uQ);have JH:=grownCap_ge w (acc.length+k) cap 5;have Pi:grownCap w (acc.length+k) cap 5<=maxLen:=grownCap_le_maxLen w (acc.length+k) cap 5 ur;refine ⟨_,_,hr,⟨by simp [zc], .inr ⟨↑w,_,_,rfl,Cx,heap_alloc_new w.drew _,JH,Pi, ?_, ?_⟩⟩,⟨rfl,rfl,rfl,uh,fun j hj _=> by first | exact Below.heap_alloc w.drew _ _ hj | exact Below.heap_alloc w.drew _ _ hj⟩⟩
 ·simp only [Array.size_append,F5,size_zeroCells,List.size_toArray,AN];simp [Value.cells];omega
 simp only [Array.toList_append,zda];have:(acc.length+k) * 1=(zc acc++zc (List.replicate k 0)).length:=by simp [zc]
 rw [this];exact List.take_left
end
section
open Go.RowKit
theorem zoe (w:World) (c:Nat) (hc:c<=1000):∃w',(Instr.makeSlice 33 (ι 0) ↑c).run prog w= .ok (σ (some ↑w) 0 c) w'/\w'.ownsRow ↑w 5 1 (σ (some ↑w) 0 c) ([]:List UInt8).length (zc [])/\θ w w w':=by
 obtain ⟨i0,hi,AG,Ai,Ax⟩:=info_parts zi2;obtain ⟨w',hr,ho,hg⟩:=run_make_own (P:=prog) w ↑w 33 5 i0 (ω 0) 1 Tryz.underlying33 hi AG Ai .i64 .i64 c uQ ur zl;exact ⟨w',hr,ho,zr.grown hg zl (fun k hk=> by cases hk)⟩
theorem zoZ (Af:w.ownsRow base 5 1 v acc.length (zc acc)) (c d:UInt8)
 (Ac:acc.length+2<=100000000000) (Cx:base<=↑w):
 ∃v' w',(Builtin.append_ #[33,33] 33 #[v,σ (some ↑w) 2 2]).run prog (w.alloc (.cells #[ω c.toNat, ω d.toNat] 5))= .ok v' w'/\w'.ownsRow base 5 1 v' (acc++ [c,d]).length (zc (acc++ [c,d]))/\w.grownBy w' v.ownBlock:=by
 obtain ⟨i0,hi,AG,Ai,Ax⟩:=info_parts zi2;obtain ⟨v',w',BE,ET,BN,_⟩:=zlX (P:=prog) Tryz.underlying33 hi AG Ai Ax rfl uf Af 2 [ω c.toNat, ω d.toNat] rfl (fun u hu=> by simp at hu;rcases hu with rfl | rfl <;> rfl) ur ud Cx
 refine ⟨v',w',BE, ?_,BN⟩;rw [List.length_append,zbY];exact ET
theorem zgf (Af:w.ownsRow base 5 1 v acc.length (zc acc)) (Cx:base<=↑w) (hl:acc.length<=1000000000) (x k:Nat) (hx:x < 18446744073709551616) (hk:k<=8):
 χ 111 #[v,υ x,↑k] w fun e w'=> ∃v',e=ρ v'/\w'.ownsRow base 5 1 v' (acc++leN k x).length (zc (acc++leN k x))/\θ base w w':=by
 have HO:=zh Af;clear Af;go_in;go_wp2_with fail
 go_loopw [0,10] (fun u0 u10 wr=> ∃j:Nat,j<=k/\u10= ι j/\wr.ownsRow base 5 1 u0 (acc++leN j x).length (zc (acc++leN j x))/\θ base w wr) (fun _ u10 _=> k - (intOf u10).toNat)
 case atStart=> exact ⟨0,ud,rfl,by simpa [leN] using HO.out,Below.refl _ _⟩
 case round=>
  obtain ⟨j,hj,rfl,Af,FO⟩:=hrel
  by_cases hlt:j < k
  ·have hs:=zoa j x;have EF:(acc++leN j x).length=acc.length+j:=by rw [List.length_append,zed]
   have hm:IntKind.i64.wrap (8 * (j:Int))=8 * (j:Int):=zw _ ud;have LA:(0:Int)<=8 * (j:Int):=ud;have C6:8 * (j:Int) < 64:=ud;have TW:(8 * (j:Int)).toNat=8 * j:=ud;have Gr:(256:Nat) ^ j=2 ^ (8 * j):=by rw [Nat.pow_mul]
   rw [Gr] at hs;have VF:((x:Int) / 2 ^ (8 * j))=((x / 2 ^ (8 * j):Nat):Int):=by push_cast;rfl
   have IK:x / 2 ^ (8 * j)<=x:=Nat.div_le_self _ _;generalize x / 2 ^ (8 * j)=q at *;have hq:((q:Int) % 256)=((UInt8.ofNat q).toNat:Int):=by rw [UInt8.toNat_ofNat'];omega
   have hw:IntKind.u8.wrap (q:Int)=((UInt8.ofNat q).toNat:Int):=by rw [IntKind.wrap_u8',<- hq]
   obtain ⟨v',w',BE,ET,BN⟩:=znR Af ((UInt8.ofNat q).toNat:Int) (UInt8.ofNat q) rfl ud (zs Cx FO.size);have XP:=Below.own FO Af BN zl (zs Cx FO.size);rw [List.append_assoc,<- hs] at ET;have HO:=zh ET;clear hs hq Af ET BN EF Gr
   go_wp2_with (at_builtin;refine za rfl _ _ _ rfl BE ?_)
   exact ⟨⟨j+1,ud,by go_num,HO.out,XP⟩,by simp [intOf];omega⟩
  have:j=k:=ud;subst this;go_wp2;go_ret;exact ⟨u0,rfl,Af,FO⟩
theorem zn7 (k:Nat) (hk:1<=k/\k<=6) (w:World):χ 110 #[↑k] w fun e w'=> e=ρ (.bool true)/\w=w':=
 (zj3 k w).mono fun _ _ h=> by rw [decide_eq_true hk.1,decide_eq_true hk.2] at h;exact h
theorem zmM:leN 2 19613= [157,76]:=uf
theorem zjj {o:Nat} (cap k:Nat) {l:List UInt8} (h:Bs w (some (b o ())) n l) (hn:n < 120) (hk:1<=k/\k<=6):
 χ 67 #[↑k,σ (some (b o ())) n cap] w fun e w'=> ∃v,e=ρ (.tuple #[v,ι 0])/\w'.ownsRow ↑w 5 1 v (zcC (UInt8.ofNat k) l).length (zc (zcC (UInt8.ofNat k) l))/\θ w w w':=by
 obtain ⟨w1,QU,Bo,Aa⟩:=zoe w 128 ud;rw [show ((128:Nat):Int)=128 from rfl] at QU;have hl:=h.length;have H1:=zh (zn Bo (zn Aa (zn h hl)));have NE:((UInt8.ofNat k).toNat:Int)=k:=by rw [UInt8.toNat_ofNat'];omega
 have IF:((UInt8.ofNat n).toNat:Int)=n:=by rw [UInt8.toNat_ofNat'];omega
 have i1:¬(120:Int) < (n:Int):=ud;have i2:IntKind.u8.wrap (k:Int)=((UInt8.ofNat k).toNat:Int):=by rw [IntKind.wrap_u8',NE];omega
 have i3:IntKind.u8.wrap (n:Int)=((UInt8.ofNat n).toNat:Int):=by rw [IntKind.wrap_u8',IF];omega
 have HK:=zh (zn7 k hk w);have hF:=zgf Bo Aa.size uh 19613 2 ud ud;rw [show ((19613:Nat):Int)=19613 from rfl,show ((2:Nat):Int)=2 from rfl] at hF;have HF:=zh hF;clear hF;clear Bo Aa h hl NE IF;go_in;go_wp2_with fail;refine HK.out.mono ?_;rintro e w' ⟨rfl,rfl⟩;go_wp2_with fail;refine HF.out.mono ?_;rintro e w2 ⟨v2,rfl,A5,Ae⟩;rw [List.nil_append,zmM] at A5;have Ax:↑w<=w2.heap.size:=zs H1.out.2.1.size Ae.size;obtain ⟨v3,w3,XD,A6,AM⟩:=zoZ A5 (UInt8.ofNat k) (UInt8.ofNat n) uh Ax;have Am:θ w w w3:=Below.own (H1.out.2.1.trans (Ae.mono zl)) A5 AM zl Ax;have Jq:Bs w3 (some (b o ())) n l:=H1.out.2.2.1.below Am zl;obtain ⟨v4,w4,XE,Bf,DH⟩:=ziw A6 cap Jq uo Am.size;have Ar:θ w w w4:=Below.own Am A6 DH zl Am.size;obtain ⟨v5,w5,XF,AV,Bj⟩:=zlY Bf (120 - n) ud (by simp [H1.out.2.2.2];omega) Ar.size
 have Ag:θ w w w5:=Below.own Ar Bf Bj zl Ar.size;have i4:120 - (n:Int)=((120 - n:Nat):Int):=ud;have kB:(([157,76]++ [UInt8.ofNat k,UInt8.ofNat n])++l)++List.replicate (120 - n) 0=zcP (UInt8.ofNat k) l:=by
  unfold zcP;rw [H1.out.2.2.2];simp
 rw [kB] at AV;have Pv:=zb3 (UInt8.ofNat k) l (by rw [H1.out.2.2.2];omega)
 have PT:=AV;rw [Pv] at PT;obtain ⟨a5,c5,rfl,Sv,FG⟩:=zjh PT;have H5:=zh (zn AV (zn Ag Sv));clear A5 Ae Ax A6 AM Am Jq Bf DH Ar AV PT Bj Ag kB Pv Sv FG HF HK
 go_wp2_with (first | (at_builtin;refine za rfl _ _ _ rfl XD ?_) | (at_builtin;refine za rfl _ _ _ rfl XE ?_) | (at_builtin;refine za8 rfl _ _ _ _ rfl XF ?_))
 have AT:θ w5 w5 (w5.alloc (.cells #[σ a5 124 c5] 33)):=zr.alloc zl _;refine (zhG ↑w5 0 124 c5 1 a5 (zcP (UInt8.ofNat k) l) _ (H5.out.2.2.below AT zl) ud uh).mono ?_;rintro e w7 ⟨rfl,B1⟩;have EM:θ w5 w5 w7:=AT.trans (B1.mono AT.size);have FY:=zok H5.out.1 EM;have AN:=zgK (zcP (UInt8.ofNat k) l);obtain ⟨cr,BM⟩:∃cr,cr=zhF (zcP (UInt8.ofNat k) l):=⟨_,rfl⟩;have QZ:zcC (UInt8.ofNat k) l=zcP (UInt8.ofNat k) l++leN 4 cr:=by rw [BM];rfl
 rw [<- BM] at AN ⊢;have Pv:=zb3 (UInt8.ofNat k) l (by rw [H1.out.2.2.2];omega)
 have Dv:IntKind.u64.wrap (cr:Int)=(cr:Int):=by simp only [IntKind.wrap,IntKind.bits,IntKind.signed];simp;omega
 have hP:=zgf FY (zs H5.out.2.1.size EM.size) ud cr 4 ud ud;rw [show ((4:Nat):Int)=4 from rfl] at hP;have HP:=zh hP;clear hP;have HB:=zh (zn (H5.out.2.1.trans (EM.mono H5.out.2.1.size)) QZ);clear AT B1 EM FY BM QZ AN Pv;go_wp2_with fail;refine HP.out.mono ?_;rintro e w8 ⟨v8,rfl,aG,Sj⟩;go_wp2;go_ret2;exact ⟨v8,rfl,by rw [HB.out.2];exact aG,HB.out.1.trans Sj⟩
theorem zkx (k:UInt8) (l:List UInt8) (h:l.length<=120):ziA (zcC k l)=l:=by
 unfold ziA zcC zcP;have hn:(UInt8.ofNat l.length).toNat=l.length:=by rw [UInt8.toNat_ofNat'];omega
 simp only [List.cons_append,List.drop_succ_cons,List.drop_zero,List.getD_cons_succ,List.getD_cons_zero,hn,List.append_assoc];rw [List.take_left' rfl]
theorem zi4 (k:UInt8) (hk:1<=k.toNat/\k.toNat<=6) (l:List UInt8) (h:l.length<=120):zcK (zcC k l)=true/\((zcC k l).getD 2 0)=k:=by
 have hn:(UInt8.ofNat l.length).toNat=l.length:=by rw [UInt8.toNat_ofNat'];omega
 refine ⟨?_,rfl⟩
 show (decide (1<=k.toNat) && decide (k.toNat<=6) && decide ((UInt8.ofNat l.length).toNat<=120) && (zcC k l==zcC k (((l++List.replicate (120 - l.length) 0)++leN 4 (zhF (zcP k l))).take (UInt8.ofNat l.length).toNat)))=true
 rw [hn,List.append_assoc,List.take_left' rfl];simp [hk,h]
theorem zmZ (k:UInt8) (l:List UInt8) (h:l.length<=120):(zcC k l).length=128:=by
 unfold zcC;rw [List.length_append,zb3 k l h,zed]
theorem zll {o:Nat} (cap k:Nat) (hk:1<=k/\k<=6) {l:List UInt8} (hl:l.length<=120) (h:Bs w (some (b o ())) 128 (zcC (UInt8.ofNat k) l)) (Ep:128<=cap):
 χ 43 #[↑k,σ (some (b o ())) 128 cap] w fun e w'=> ∃v,e=ρ (.tuple #[v,ι 0])/\w'.ownsRow ↑w 5 1 v l.length (zc l)/\θ w w w':=by
 have Tf:(UInt8.ofNat k).toNat=k:=by rw [UInt8.toNat_ofNat'];omega
 obtain ⟨DJ,MK⟩:=zi4 (UInt8.ofNat k) (by rw [Tf];exact hk) l hl
 have DF:=zkx (UInt8.ofNat k) l hl;have HG:Hid (χ 81 #[σ (some (b o ())) 128 cap] w fun e w'=> ∃v,e=ρ (.tuple #[↑k,v,ι 0])/\w'.ownsRow ↑w 5 1 v l.length (zc l)/\θ w w w'):=zh ((zji b o cap _ w h Ep).mono fun e w' hE=> by
  obtain ⟨hb,he⟩:=hE;rcases he with ⟨-,v,h1,h2⟩ | ⟨h1,-⟩
  ·rw [MK,Tf] at h1;rw [DF] at h2;exact ⟨v,h1,h2,hb⟩
  rw [DJ] at h1;cases h1)
 go_in;go_wp2_with fail;refine HG.out.mono ?_;rintro e w2 ⟨v,rfl,ho,hb⟩;have Aj:((k:Int) !=(k:Int))=false:=uh
 have HO:=zh (zn ho hb);go_wp2;go_ret2;exact ⟨v,rfl,HO.out.1,HO.out.2⟩
end
section
open Go.RowKit
structure Cfg where
 sectors:Int
 log:Int
 seq:Nat
 clock:Nat
 win:Nat
 every:Nat
structure StA where
 ph:Nat
 pt:Nat
 pa:Nat
 pd:Nat
 lg:Nat
def zcH (h:Ch) (a:StA) (cf:Cfg) (st:PS):Array Value:=#[↑st.c.nv,↑st.c.ng,↑st.c.nb,υ st.c.fl,σ h.va st.c.vols.length h.vc,σ h.ga st.c.groups.length h.gc,σ h.ba st.c.books.length h.bc,σ h.ka st.c.kept.length h.kc,σ h.ta st.c.times.length h.tc,π (some ⟨a.ph,0,none⟩),π (some ⟨a.pd,0,none⟩),↑a.lg,↑cf.sectors,↑cf.log,υ cf.seq,υ cf.clock,υ cf.win,υ cf.every,υ st.seq,υ st.clock]
structure StM (w:World) (p:Nat) (h:Ch) (a:StA) (cf:Cfg) (st:PS) (nb k:Nat) (F:List Nat) (L:List Uc) (E:Nat->Prop) (s:Nat) (lv:Value) (xs:List Sh) (ys:List Wh) (D:Nat->Prop) (Q:Nat->Prop):Prop where
 box:w.heap[p]? =some (.cells (zcH h a cf st) 60 (0,0))
 cat:zaV Q w h st.c
 hist:zaF w a.ph a.pt a.pa st.l F L nb E
 hinv:zcR nb st.l F L
 disk:zbC Q w a.pd s lv xs ys false 0 D
 dom:∀j,Q j↔j=p\/E j\/D j
 ne:¬E p/\¬D p/\∀j,E j->¬D j
 pages:∀e ∈ st.l,e.2≠0->zfD (xs.map (·.d)) (zbp ys) (a.lg+e.2+1)=zcC 6 (st.bl e.2)/\(st.bl e.2).length=64
 room:a.lg+nb+1 < xs.length/\xs.length<=4096
 many:ys.length<=k
structure StW (w:World) (p:Nat) (h:Ch) (a:StA) (cf:Cfg) (st:PS) (nb k:Nat) (Q:Nat->Prop):Prop where
 inv:StI nb st k
 nbl:nb<=4000
 kl:k<=62
 mem:∃F L E s lv xs ys D,StM w p h a cf st nb k F L E s lv xs ys D Q
section
variable {w:World} {p:Nat} {h:Ch} {a:StA} {cf:Cfg} {st:PS} {nb k:Nat} {Q:Nat→Prop} {F:List Nat} {L:List Uc} {E:Nat→Prop} {s:Nat} {lv:Value} {xs:List Sh} {ys:List Wh} {D:Nat→Prop}
theorem StM.plt (H:StM w p h a cf st nb k F L E s lv xs ys D Q):p < ↑w:=(zg H.box).1
theorem StM.qlt (H:StM w p h a cf st nb k F L E s lv xs ys D Q):∀j,Q j->j < ↑w:=fun j hj=> by
 rcases (H.dom j).1 hj with rfl | hj | hj
 ·exact H.plt
 ·exact H.hist.lt j hj
 exact H.disk.lt j hj
theorem StM.below (H:StM w p h a cf st nb k F L E s lv xs ys D Q) (hb:θ w w w'):StM w' p h a cf st nb k F L E s lv xs ys D Q:=
 ⟨(hb.block p H.plt).trans H.box,H.cat.below hb,H.hist.below hb,H.hinv,H.disk.below hb,H.dom,H.ne,H.pages,H.room,H.many⟩
end
section
variable {w:World} {p:Nat} {h:Ch} {a:StA} {cf:Cfg} {st:PS} {nb k:Nat} {Q:Nat→Prop}
theorem StW.below (H:StW w p h a cf st nb k Q) (hb:θ w w w'):StW w' p h a cf st nb k Q:=by
 obtain ⟨F,L,E,s,lv,xs,ys,D,hM⟩:=H.mem;exact ⟨H.inv,H.nbl,H.kl,F,L,E,s,lv,xs,ys,D,hM.below hb⟩
theorem StW.plt (H:StW w p h a cf st nb k Q):p < ↑w:=by
 obtain ⟨F,L,E,s,lv,xs,ys,D,hM⟩:=H.mem;exact hM.plt
theorem StW.qlt (H:StW w p h a cf st nb k Q):∀j,Q j->j < ↑w:=by
 obtain ⟨F,L,E,s,lv,xs,ys,D,hM⟩:=H.mem;exact hM.qlt
theorem StW.box (H:StW w p h a cf st nb k Q):w.heap[p]? =some (.cells (zcH h a cf st) 60 (0,0)):=by
 obtain ⟨F,L,E,s,lv,xs,ys,D,hM⟩:=H.mem;exact hM.box
theorem StW.cat (H:StW w p h a cf st nb k Q):zaV Q w h st.c:=by
 obtain ⟨F,L,E,s,lv,xs,ys,D,hM⟩:=H.mem;exact hM.cat
theorem StW.hist (H:StW w p h a cf st nb k Q):∃F L E,zaF w a.ph a.pt a.pa st.l F L nb E:=by
 obtain ⟨F,L,E,s,lv,xs,ys,D,hM⟩:=H.mem;exact ⟨F,L,E,hM.hist⟩
theorem StW.llen (H:StW w p h a cf st nb k Q):st.l.length<=2000:=by have:=H.inv.len;have:=H.kl;omega
theorem StW.reads (H:StW w p h a cf st nb k Q):w p=some ↑st.c.nv/\w (p 1 ())=some ↑st.c.ng/\w (p 2 ())=some ↑st.c.nb/\w (p 3 ())=some (υ st.c.fl)/\w (p 4 ())=some (σ h.va st.c.vols.length h.vc)/\w (p 5 ())=some (σ h.ga st.c.groups.length h.gc)/\w (p 6 ())=some (σ h.ba st.c.books.length h.bc)/\w (p 7 ())=some (σ h.ka st.c.kept.length h.kc)/\w (p 8 ())=some (σ h.ta st.c.times.length h.tc)/\w (p 9 ())=some (π (some ⟨a.ph,0,none⟩))/\w (p 10 ())=some (π (some ⟨a.pd,0,none⟩))/\w (p 11 ())=some ↑a.lg/\w (p 12 ())=some ↑cf.sectors/\w (p 13 ())=some ↑cf.log/\w (p 14 ())=some (υ cf.seq)/\w (p 15 ())=some (υ cf.clock)/\w (p 16 ())=some (υ cf.win)/\w (p 17 ())=some (υ cf.every)/\w (p 18 ())=some (υ st.seq)/\w (p 19 ())=some (υ st.clock)/\∀j,w.frozen? (p j ())=false:=by
 have hb:=H.box;exact ⟨cell_of_row w _ 0 _ _ _ hb,cell_of_row w _ 1 _ _ _ hb,cell_of_row w _ 2 _ _ _ hb,cell_of_row w _ 3 _ _ _ hb,cell_of_row w _ 4 _ _ _ hb,cell_of_row w _ 5 _ _ _ hb,cell_of_row w _ 6 _ _ _ hb,cell_of_row w _ 7 _ _ _ hb,cell_of_row w _ 8 _ _ _ hb,cell_of_row w _ 9 _ _ _ hb,cell_of_row w _ 10 _ _ _ hb,cell_of_row w _ 11 _ _ _ hb,cell_of_row w _ 12 _ _ _ hb,cell_of_row w _ 13 _ _ _ hb,cell_of_row w _ 14 _ _ _ hb,cell_of_row w _ 15 _ _ _ hb,cell_of_row w _ 16 _ _ _ hb,cell_of_row w _ 17 _ _ _ hb,cell_of_row w _ 18 _ _ _ hb,cell_of_row w _ 19 _ _ _ hb,fun j=> by simp [World.frozen?,hb]⟩
end
end
end Go.Proofs.YtaoceecfjlkmdaaGreat
