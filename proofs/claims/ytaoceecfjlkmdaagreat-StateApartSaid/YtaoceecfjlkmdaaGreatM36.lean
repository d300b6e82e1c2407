/- Lemmas of the walks, merged and pressed by press.py. Conditions: those of each theorem. -/
import Derived.Test.YtaoceecfjlkmdaaGreatM29
import Derived.Test.YtaoceecfjlkmdaaGreatM35
import Derived.Deep.RegionHeld3
import Derived.Test.YtaoceecfjlkmdaaGreatM21
set_option maxRecDepth 100000
set_option maxHeartbeats 64000000
set_option linter.all false
namespace Go.Proofs.YtaoceecfjlkmdaaGreat
open Tryz
section
open Go.RowKit
theorem zi1 (l:List En) (v s a n:Nat):zaL l v s a (n+1)=zaL l v s a n++if atL l v (a+n) s≠0 then [⟨a+n,0,none⟩] else []:=by
 unfold zaL;rw [List.range'_1_concat,List.filter_append,List.map_append]
 by_cases h:atL l v (a+n) s=0 <;> simp [h]
theorem zkZ (l:List En) (v s a n:Nat):(zaL l v s a n).length<=n:=by
 unfold zaL;rw [List.length_map];exact zs (List.length_filter_le _ _) (by rw [List.length_range'];exact zl)
def HolE (w0:World) (p:Nat) (h:Ch) (a:StA) (cf:Cfg) (st:PS) (nb k:Nat) (Q:Nat->Prop) (x:Nat) (hc:Ch) (g:Chg) (e:Ending) (w':World):Prop:=e= .returned (.tuple #[])/\∃pv pl,EvC w0 w' p h a cf st nb k Q x hc g pv pl
theorem zhU {w0 w:World} {p:Nat} {h:Ch} {a:StA} {cf:Cfg} {st:PS} {nb k:Nat} {Q:Nat->Prop} {x:Nat} {hc:Ch} {g:Chg} {pv:Value} {pl:List Ph} (H:EvC w0 w p h a cf st nb k Q x hc g pv pl) (hg:g.puts= []) (v fr til:Nat) (hv:v < 65536) (Mw:fr<=100) (cC:til<=100):
 Calls Tryz.prog 92 #[.pointer (some ⟨p,0,none⟩), .pointer (some ⟨x,0,none⟩), .int .i64 (v:Int), .int .i64 (fr:Int), .int .i64 (til:Int)] w (HolE w0 p h a cf st nb k Q x hc {g with vol:=v,puts:=zaL st.l v st.seq fr (til - fr)}):=by
 obtain ⟨w1,Ab⟩:∃w1,w1=w.setCell ⟨x,10,none⟩ (.int .i64 (v:Int)):=⟨_,rfl⟩;have AH:w1.heap[x]? =some (.cells (zb8 hc {g with vol:=v} pv) 81 (0,0)):=by rw [Ab];exact heap_setCell_same w x 10 _ _ _ H.chg.box
 have Cf:w.grownBy w1 (some x):=by rw [Ab];exact zq w ⟨x,10,none⟩ _
 have H1:EvC w0 w1 p h a cf st nb k Q x hc {g with vol:=v} pv pl:=⟨H.st,H.bel.grown Cf H.bel.size (fun r hr=> by cases hr;exact H.chg.lo),H.chg.turn AH Cf H.chg.cat rfl⟩
 obtain ⟨c0,c1,c2,c3,c4,c5,c6,c7,c8,c9,c10,c11,c12,c13,c14,cf0⟩:=H.chg.reads;have f10:=cf0 10;have e0:({g with vol:=v,puts:=zaL st.l v st.seq fr 0}:Chg)={g with vol:=v}:=by rw [show zaL st.l v st.seq fr 0= [] from rfl,<- hg]
 have HZ:Hid (EvC w0 w1 p h a cf st nb k Q x hc {g with vol:=v,puts:=zaL st.l v st.seq fr 0} pv pl):=zh (by rw [e0];exact H1)
 have H1:=zh (zn H1 (zn hg H.chg.lo));clear e0 H hg AH Cf cf0 c0 c1 c2 c3 c4 c5 c6 c7 c8 c9 c11 c12 c13 c14;go_in;go_upto_region 1 with fail;rw [<- Ab];clear Ab c10 f10;go_wp2_with fail
 go_loopw [10] (fun u wr=> ∃(n:Nat) (pv:Value) (pl:List Ph),(fr+n<=til\/n=0)/\u= .int .i64 ((fr+n:Nat):Int)/\EvC w0 wr p h a cf st nb k Q x hc {g with vol:=v,puts:=zaL st.l v st.seq fr n} pv pl) (fun u _=> til - (intOf u).toNat)
 case atStart=> exact ⟨0,pv,pl, .inr rfl,rfl,HZ.out⟩
 case round=>
  obtain ⟨n,pv,pl,hn,rfl,hE⟩:=hrel;obtain ⟨i,hi⟩:∃i,i=fr+n:=⟨_,rfl⟩;rw [<- hi];have HE:=zh hE;clear hE
  by_cases hlt:i < til
  ·have Bb:(i:Int) < (til:Int):=ud;have FS:IntKind.i64.wrap ((i:Int)+1)=((i+1:Nat):Int):=by rw [zw _ ud];omega
   have hs:=HE.out.stw;obtain ⟨F,L,E,hH⟩:=hs.hist;have Cj:=zh (fun (W:World) (hW:Below wr.heap.size wr W)=> zf6 (hH.below hW) hs.llen v i st.seq hv ud hs.inv.seq);obtain ⟨-,-,-,-,-,-,-,-,-,x9,-,-,-,-,-,-,-,-,x18,-⟩:=hs.reads;have EZ:=zh (fun (W:World) (hW:Below wr.heap.size wr W)=> show W.cell? ⟨p,9,none⟩=some (.pointer (some ⟨a.ph,0,none⟩))/\W.cell? ⟨p,18,none⟩=some (.int .u64 (st.seq:Int)) from ⟨(hs.below hW).reads.2.2.2.2.2.2.2.2.2.1,(hs.below hW).reads.2.2.2.2.2.2.2.2.2.2.2.2.2.2.2.2.2.2.1⟩);unfold zv at Cj;have CX:=zi1 st.l v st.seq fr n;rw [<- hi] at CX;have HI:=zh (zn hi (zn CX (zn hn (zkZ st.l v st.seq fr n))));clear hs hH hi CX hn;have Cu:Below wr.heap.size wr wr.drew:=zr.drew;generalize atL st.l v i st.seq=at0 at *;go_wp2_with fail
   go_region_held3 (fun W=> W.cell? ⟨p,9,none⟩=some (.pointer (some ⟨a.ph,0,none⟩))/\W.cell? ⟨p,18,none⟩=some (.int .u64 (st.seq:Int))) (first | with_reducible exact Bg | go_keep)
        ((go_at_call 21;((with_reducible refine (Cj.out _ Cu).mono ?_);rintro e w5 ⟨rfl,Ag⟩;have Ag:Below wr.heap.size wr w5:=Cu.trans Ag;have Bg:=EZ.out w5 Ag)))
   have C1:=zh (HE.out.below Ag);clear Ag Bg Cj EZ x9 x18 Cu
   by_cases h0:at0=0
   ·have i0:((at0:Int) !=0)=false:=by rw [h0];rfl
    have hS:zaL st.l v st.seq fr (n+1)=zaL st.l v st.seq fr n:=by rw [HI.out.2.1,if_neg ud,List.append_nil]
    have HF:=zh (show EvC w0 w5 p h a cf st nb k Q x hc {g with vol:=v,puts:=zaL st.l v st.seq fr (n+1)} pv pl by rw [hS];exact C1.out)
    clear hS h0;go_wp2_with fail
    go_roundw
    case rel=> exact ⟨n+1,pv,pl, .inl (by have:=HI.out.1;omega),by have:=HI.out.1;congr 1;omega,HF.out⟩
    case measure=> simp [intOf];omega
   have i0:((at0:Int) !=0)=true:=uo;have hS:zaL st.l v st.seq fr (n+1)=zaL st.l v st.seq fr n++ [⟨i,0,none⟩]:=by rw [HI.out.2.1,if_pos h0]
   have Ac:pl.length<=1000:=by
    have h1:=congrArg List.length C1.out.chg.map;rw [List.length_map] at h1;have h2:=HI.out.2.2.2;have h3:=HI.out.1;have h4:pl.length=(zaL st.l v st.seq fr n).length:=h1
    omega
   obtain ⟨v',w',hr,⟨k1,k2⟩,k3,⟨a',n',c',rfl⟩,Kr,E7,-,-⟩:=C1.out.chg.push C1.out.stw.qlt ⟨i,0,none⟩ (fun z hz=> by cases hz) Ac C1.out.bel.size
   obtain ⟨pa,pn,pc,rfl⟩:=C1.out.chg.puts.form;have c11:=C1.out.chg.reads.2.2.2.2.2.2.2.2.2.2.2.1;have HF:=zh (show EvC w0 (w'.setCell ⟨x,11,none⟩ (.slice a' n' c')) p h a cf st nb k Q x hc {g with vol:=v,puts:=zaL st.l v st.seq fr (n+1)} (.slice a' n' c') (pl++ [⟨i,0,none⟩]) by rw [hS];exact ⟨C1.out.st,C1.out.bel.trans E7,Kr⟩)
   unfold zaT dV at hr k3;clear hS h0 Ac Kr E7 HE C1
   go_wp2_with (at_builtin;refine za rfl _ _ _ rfl hr ?_)
   go_roundw
   case rel=> exact ⟨n+1,_,_, .inl (by have:=HI.out.1;omega),by have:=HI.out.1;congr 1;omega,HF.out⟩
   case measure=> simp [intOf];omega
  have Bb:¬(i:Int) < (til:Int):=ud;have BH:til - fr=n:=ud;have HF:=zh (show EvC w0 wr p h a cf st nb k Q x hc {g with vol:=v,puts:=zaL st.l v st.seq fr (til - fr)} pv pl by rw [BH];exact HE.out)
  clear BH;go_wp2_with fail;go_end0;unfold HolE;exact ⟨rfl,pv,pl,HF.out⟩
end
section
open Go.RowKit
theorem zbS.intAt {T:TypeId} {w:World} {g cap:Nat} {l:List Int} (h:zbS zcm 1 T w g cap l) {i:Nat} {x:Int} (hx:l[i]? =some x):w.cell? ⟨g,i,none⟩=some (.int .i64 x)/\w.frozen? ⟨g,i,none⟩=false:=by
 obtain ⟨b,o,e,hc⟩:=(h.row zT).2 i x hx;simp only [Option.some.injEq,Addr.mk.injEq,and_true] at e;obtain ⟨rfl,rfl⟩:=e;have c0:=hc 0 _ rfl;simp only [Nat.add_zero,Nat.zero_add,Nat.mul_one] at c0;refine ⟨c0, ?_⟩;obtain ⟨cur,h1,-⟩:=h.ex;simp [World.frozen?,h1]
theorem zbS.intSet {T:TypeId} {w:World} {g cap:Nat} {l:List Int} (h:zbS zcm 1 T w g cap l) {i:Nat} (hi:i < l.length) (v:Int):zbS zcm 1 T (w.setCell ⟨g,i,none⟩ (.int .i64 v)) g cap (l.set i v)/\w.grownBy (w.setCell ⟨g,i,none⟩ (.int .i64 v)) (some g):=by
 obtain ⟨q1,q2,-⟩:=h.setC zT (x:=l[i]) (y:=v) (j:=0) (v:= .int .i64 v) (ze hi) uf rfl;rw [Nat.mul_one,Nat.add_zero] at q1 q2;exact ⟨q1,q2⟩
theorem zK.weak {α:Type} {enc:α->List Value} {k:Nat} {e:TypeId} {w:World} {B C:Nat} {v:Value} {l:List α} (h:zK enc k e w B v l) (hC:C<=B):zK enc k e w C v l:=by
 refine ⟨h.1, ?_⟩;rcases h.2 with h0 | ⟨g,cap,cur,h1,h2,h3⟩
 ·exact .inl h0
 exact .inr ⟨g,cap,cur,h1,zs hC h2,h3⟩
theorem zmD (x:Int) (pb:Nat) (id:Int) (w:World) (hc:w.cell? ⟨pb,0,none⟩=some (.int .i64 id)):
 Calls Tryz.prog 186 #[.int .i64 x, .pointer (some ⟨pb,0,none⟩)] w fun e w'=> e= .returned (.bool (decide (x=id)))/\w'=w:=by
 by_cases h:x=id
 ·have z:(x==id)=true:=by rw [h];simp
  have HF:=zh (decide_eq_true h);clear h;go_in;go_wp2_with fail;go_ret;exact ⟨by rw [HF.out];rfl,rfl⟩
 have z:(x==id)=false:=by rw [beq_eq_false_iff_ne];exact h
 have HF:=zh (decide_eq_false h);clear h;go_in;go_wp2_with fail;go_ret;exact ⟨by rw [HF.out];rfl,rfl⟩
theorem zgh {w:World} {a:Option Addr} {n c:Nat} {l:List Int} (h:zM zcm 1 w a n l) (hn:n<=1000000) (pb:Nat) (id:Int) (hp:w.cell? ⟨pb,0,none⟩=some (.int .i64 id)):
 Calls Tryz.prog 216 #[.slice a n c, .func (.func 186) #[] #[.pointer (some ⟨pb,0,none⟩)]] w fun e w'=> e= .returned (.int .i64 (zf0 (l.findIdx? fun x=> decide (x=id))))/\w'=w:=by
 have HL:=zh h.1;have H:=zh h;have HP:=zh hp;clear h hp;go_in;go_wp2_with fail
 go_loopw [8] (fun u wr=> ∃i:Nat,i<=n/\u= .int .i64 i/\(∀y ∈ l.take i,decide (y=id)=false)/\w=wr) (fun u _=> n - (intOf u).toNat)
 case atStart=> exact ⟨0,ud,rfl,uh,rfl⟩
 case round=>
  obtain ⟨i,hi,rfl,hR,rfl⟩:=hrel;have HR:=zh hR;clear hR
  by_cases hlt:i < n
  ·have Bb:(i:Int) < (n:Int):=ud;have AD:(0:Int)<=(i:Int):=ud;obtain ⟨x,hx⟩:∃x,l[i]? =some x:=⟨_,ze uj⟩;obtain ⟨b,o,rfl,hc⟩:=H.out.2 i x hx;have c0:=hc 0 _ rfl;simp only [Nat.add_zero,Nat.mul_one] at c0;have HC:=zh (zmD x pb id w HP.out);have HX:=zh hx;clear hx hc
   cases hd:decide (x=id) with
   | true=>
     rw [hd] at HC;have HF:=zh (zdk HX.out hd HR.out);clear hd;go_wp2_with fail;refine HC.out.mono ?_;rintro e w5 ⟨rfl,Co⟩;subst w5;go_wp2_with fail;go_ret;exact ⟨by rw [HF.out];rfl,rfl⟩
   | false=>
     rw [hd] at HC;have HF:Hid (∀y ∈ l.take (i+1),decide (y=id)=false):=zh fun y hy=> by
      rw [List.take_add_one,HX.out] at hy;rcases List.mem_append.1 hy with hy | hy
      ·exact HR.out y hy
      simp at hy;subst hy;exact hd
     clear hd;go_wp2_with fail;refine HC.out.mono ?_;rintro e w5 ⟨rfl,Co⟩;subst w5;go_wp2_with fail
     go_roundw
     case rel=> exact ⟨i+1,ud,by go_num,HF.out,ubj⟩
     case measure=> simp [intOf];omega
  obtain rfl:n=i:=ud;have HF:=zh (zdM (l:=l) (p:=fun x=> decide (x=id)) (fun y hy=> HR.out y uB));go_wp2_with fail;go_ret;exact ⟨by rw [HF.out];rfl,rfl⟩
structure DfS (g cap:Nat) (id:Int) (xs:List Int) (w0:World) (i j:Nat) (cur:List Int) (w:World):Prop where
 rw:zbS zcm 1 3 w g cap cur
 len:cur.length=xs.length
 tail:∀m,i<=m->cur[m]? =xs[m]?
 keep:cur.take i=(xs.take j).filter fun x=> decide (x≠id)
 grown:w0.grownBy w (some g)
theorem DfS.skip {g cap i j:Nat} {id:Int} {xs cur:List Int} {w0 w:World} (h:DfS g cap id xs w0 i j cur w) (hx:xs[j]? =some id):DfS g cap id xs w0 i (j+1) cur w:=by
 refine ⟨h.rw,h.len,h.tail, ?_,h.grown⟩;rw [List.take_add_one,hx,List.filter_append,h.keep];simp
theorem DfS.push {g cap i j:Nat} {id x:Int} {xs cur:List Int} {w0 w:World} (h:DfS g cap id xs w0 i j cur w) (hx:xs[j]? =some x) (Aj:x≠id) (hi:i < cur.length):DfS g cap id xs w0 (i+1) (j+1) (cur.set i x) (w.setCell ⟨g,i,none⟩ (.int .i64 x)):=by
 obtain ⟨q1,q2⟩:=h.rw.intSet hi x;refine ⟨q1,by rw [List.length_set];exact h.len,fun m hm=> ?_, ?_,h.grown.trans q2⟩
 ·rw [List.getElem?_set_ne ud];exact h.tail m ud
 rw [List.take_add_one,List.getElem?_set_self hi,List.take_set_of_le zl,h.keep,List.take_add_one,hx,List.filter_append];simp [Aj]
theorem zpT:(Tryz.prog.info? 3).map (fun i=> (i.zero,i.size,i.bytes))=some (some (.int .i64 0),1,8):=ue
theorem znX {w:World} {B:Nat} {v:Value} {xs:List Int} (h:zK zcm 1 3 w B v xs) (hl:xs.length<=1000) (pb:Nat) (id:Int) (hp:w.cell? ⟨pb,0,none⟩=some (.int .i64 id)) (kZ:pb < B):
 Calls Tryz.prog 185 #[v, .func (.func 186) #[] #[.pointer (some ⟨pb,0,none⟩)]] w fun e w'=> ∃v',e= .returned v'/\zK zcm 1 3 w' B v' (xs.filter fun x=> decide (x≠id))/\w.grownBy w' v.ownBlock:=by
 rcases h.cases with ⟨rfl,rfl⟩ | ⟨g,cap,rfl,Bc,BF,hR⟩
 ·have HI:=zh (zgh (c:=0) (zM.nil zcm 1 w none) uf pb id hp);clear h hp;go_in;go_wp2_with fail;refine HI.out.mono ?_;rintro e w5 ⟨rfl,Co⟩;subst w5
  dsimp only [List.findIdx?_nil,zf0]
  go_wp2_with fail;go_ret;exact ⟨_,rfl,World.ownsRow_nil _ _ _ _,World.grownBy.refl _ _⟩
 have HI :=zh (zgh (c:=cap) (hR.row zT) ud pb id hp);have HO:=zh (zn h (zn hR (zn Bc hl)));have HP:=zh (zn hp kZ);have Ge:xs.length<=cap:=hR.le;clear h hp hR BF Bc kZ;obtain ⟨n,hn⟩:∃n,n=xs.length:=⟨_,rfl⟩;have HN:=zh hn;rw [<- hn] at HI Ge hl ⊢;clear hn;go_in;go_wp2_with fail;refine HI.out.mono ?_;rintro e w5 ⟨rfl,Co⟩;subst w5;clear HI
 cases hf:xs.findIdx? fun x=> decide (x=id) with
 | none=>
   have Bq:=List.findIdx?_eq_none_iff.1 hf;have HS:Hid ((xs.filter fun x=> decide (x≠id))=xs):=zh (List.filter_eq_self.2 fun x hx=> by have:=Bq x hx;simpa using this)
   clear hf Bq
   dsimp only [zf0]
   go_wp2_with fail;go_ret;refine ⟨_,rfl, ?_,World.grownBy.refl _ _⟩;rw [HS.out,HN.out];exact HO.out.1
 | some i0=>
   obtain ⟨Kw,De⟩:=zbi hf;obtain ⟨YU,MG⟩:=List.findIdx?_eq_some_iff_getElem.1 hf |>.2
   simp only [decide_eq_true_eq] at YU;have LA:DfS g cap id xs w i0 (i0+1) xs w:=⟨HO.out.2.1,rfl,fun _ _=> rfl,by
       rw [List.take_add_one,ze De,List.filter_append];simp only [Option.toList_some,YU,ne_eq,not_true_eq_false,decide_false,Bool.false_eq_true,not_false_eq_true,List.filter_cons_of_neg,List.filter_nil,List.append_nil];refine (List.filter_eq_self.2 fun x hx=> ?_).symm;obtain ⟨m,hm,rfl⟩:=List.mem_iff_getElem.1 hx;rw [List.length_take] at hm;have:=MG m ud;rw [List.getElem_take]
       simpa using this,World.grownBy.refl _ _⟩
   have HS:=zh LA;have G8:i0 < n:=uaj;have i1:IntKind.i64.wrap ((i0:Int)+1)=((i0+1:Nat):Int):=by rw [zw _ ud];omega
   have i2:((i0:Int)==(-1))=false:=by rw [beq_eq_false_iff_ne];omega
   clear hf Kw De YU MG LA
   dsimp only [zf0]
   go_wp2_with fail;clear i1 i2
   go_loopw [5,6] (fun u5 u6 wr=> ∃(i j:Nat) (cur:List Int),u5= .int .i64 i/\u6= .int .i64 j/\i < j/\j<=n/\DfS g cap id xs w i j cur wr) (fun _ u6 _=> n - (intOf u6).toNat)
   case atStart=> exact ⟨i0,i0+1,xs,rfl,rfl,ud,ud,HS.out⟩
   case round=>
       obtain ⟨i,j,cur,rfl,rfl,h1,h2,hC⟩:=hrel;have HC:=zh hC
       by_cases hlt:j < n
       ·have Bb:(j:Int) < (n:Int):=ud;have AD:(0:Int)<=(j:Int):=ud;obtain ⟨x,hx⟩:∃x,xs[j]? =some x:=⟨_,ze uaj⟩;have c0:=(hC.rw.intAt ((hC.tail j ud).trans hx)).1;have Fb:wr.cell? ⟨pb,0,none⟩=some (.int .i64 id):=by
         have:=HP.out.2;have:=HO.out.2.2.1;exact (zY (hC.grown.block pb (zgC HP.out.1) (by simp only [ne_eq,Option.some.injEq];omega)) _).trans HP.out.1
        have HI:=zh (zmD x pb id wr Fb);have HX:=zh hx;clear hx Fb
        by_cases Ea:x=id
        ·rw [decide_eq_true Ea] at HI;have HF:=zh (hC.skip (by rw [<- Ea];exact HX.out))
         clear Ea hC;go_wp2_with fail;refine HI.out.mono ?_;rintro e w5 ⟨rfl,Co⟩;subst w5;go_wp2_with fail
         go_roundw
         case rel=> exact ⟨i,j+1,cur,rfl,by go_num,ud,ud,HF.out⟩
         case measure=> simp [intOf];omega
        rw [decide_eq_false Ea] at HI;have Lt:i < cur.length:=by have:=hC.len;have:=HN.out;omega
        have HF:=zh (hC.push HX.out Ea Lt);have ck:=(hC.rw.intAt (ze Lt)).1;have cf:=(hC.rw.intAt (ze Lt)).2;have i3:(0:Int)<=(i:Int):=ud;have i4:(i:Int) < (n:Int):=ud;clear Ea hC;go_wp2_with fail;refine HI.out.mono ?_;rintro e w5 ⟨rfl,Co⟩;subst w5;go_wp2_with fail
        go_roundw
        case rel=> exact ⟨i+1,j+1,_,by go_num,by go_num,ud,ud,HF.out⟩
        case measure=> simp [intOf];omega
       obtain rfl:n=j:=ud;have KH:(cur.take i).length=i:=by rw [List.length_take,hC.len];have:=HN.out;omega
       have C9:=hC.rw.take zT i;have PB:i<=cap:=ud;have G9:i<=n:=ud;have AL:cur.take i=xs.filter fun x=> decide (x≠id):=by rw [hC.keep,zk uaj]
       obtain ⟨i0',AD,AG,Ai,Ax⟩:=zW zpT
       by_cases Mr:cap=i
       ·exfalso;omega
       obtain ⟨w2,B7,B0,A9⟩:=zbe uf (t:=38) (z:= .int .i64 0) Tryz.underlying38 (fun w=> by simp [zeroValue,typeInfo,AD,AG]) rfl (fun u hu=> by simp [Value.cells] at hu;subst hu;rfl) C9 i (n - i) (Nat.le_of_eq KH) ud i (.inr (Nat.mul_one i).symm)
       have HF:=zh (zn (B0.own zT HO.out.2.2.1) (zn (hC.grown.trans A9.grown) (zn KH AL)));clear hC C9 B0 A9 KH AL AD AG Ai Ax;go_wp2_with fail;go_ret;refine ⟨_,rfl, ?_,HF.out.2.1⟩;rw [<- HF.out.2.2.2];have:=HF.out.1;rw [HF.out.2.2.1] at this;exact this
theorem zkq {w:World} {a:Option Addr} {n c:Nat} {l:List Int} (h:zM zcm 1 w a n l) (hn:n<=1000) (id:Int):
 Calls Tryz.prog 135 #[.slice a n c, .int .i64 id] w fun e w'=> ∃v,e= .returned v/\zK zcm 1 3 w' w.heap.size v (l.filter fun x=> decide (x≠id))/\Below w.heap.size w w':=by
 have hb:Below w.heap.size w (w.alloc (.cells #[.int .i64 id] 3)):=zr.alloc zl _;have hX:=heap_alloc_new w (.cells #[.int .i64 id] 3);have By:=zh (zd5 (c:=c) (h.below hb zl) ud);have HB:=zh (zn hb (zn hX h.1));have hz:(w.alloc (.cells #[.int .i64 id] 3)).heap.size=w.heap.size+1:=uh;rw [hz] at By;have HZ:=zh hz;clear h hb hX hz;go_in;go_wp2_with fail;refine By.out.mono ?_;rintro e w2 ⟨v2,rfl,A5,Ae⟩;have Bd:w2.cell? ⟨w.heap.size,0,none⟩=some (.int .i64 id):=cell_of_row _ _ 0 _ _ _ ((Ae.block w.heap.size (by first | omega | (rw [HZ.out];omega))).trans HB.out.2.1)
 have HD:=zh (znX A5 (by have:=HB.out.2.2;omega) w.heap.size id Bd ud)
 have HO:=zh (zn A5 Ae);clear A5 Ae Bd By;go_wp2_with fail;refine HD.out.mono ?_;rintro e w3 ⟨v3,rfl,A6,AM⟩;have Am:=Below.own (HB.out.1.trans (HO.out.2.mono ud)) (HO.out.1.weak (show w.heap.size<=w.heap.size+1 by omega)) AM zl (by have:=HO.out.2.size;have:=HZ.out;omega)
 have HF:=zh (zn (A6.weak (show w.heap.size<=w.heap.size+1 by omega)) Am)
 clear A6 AM Am;go_wp2_with fail;go_ret;exact ⟨v3,rfl,HF.out.1,HF.out.2⟩
end
section
open Go.RowKit
theorem zoR {W:World} {B:Nat} {o0 o1:Value} {t:TypeId} (h:W.heap[B]? =some (.cells #[o0,o1] t (0,0))):W.cell? ⟨B,0,none⟩=some o0/\W.cell? ⟨B,1,none⟩=some o1/\∀j,W.frozen? ⟨B,j,none⟩=false:=⟨cell_of_row W _ 0 _ _ _ h,cell_of_row W _ 1 _ _ _ h,fun j=> by simp [World.frozen?,h]⟩
def fG (v:Int) (g:Gp):Option Gp:=let m:=g.ms.filter fun x=> decide (x≠v);if m= [] then none else some {g with ms:=m}
def fB (v:Int) (b:Bk):Option Bk:=let m:=b.ms.filter fun x=> decide (x≠v);if m= [] then none else some {b with ms:=m}
theorem zmp (c:Ct) (v:Int):c.forget v={c with groups:=c.groups.filterMap (fG v),books:=c.books.filterMap (fB v)}:=rfl
theorem zfP (tmps:Array Value) (B:Nat) (v0 v1 v2 v3 v4 v5 v6 v7 v8:Value) (W:World) (h:tmps[4]? =some (.pointer (some ⟨B,0,none⟩)))
 (q:W.cell? ⟨B,0,none⟩=some v0/\W.cell? ⟨B,1,none⟩=some v1/\W.cell? ⟨B,2,none⟩=some v2/\W.cell? ⟨B,3,none⟩=some v3/\W.cell? ⟨B,4,none⟩=some v4/\W.cell? ⟨B,5,none⟩=some v5/\W.cell? ⟨B,6,none⟩=some v6/\W.cell? ⟨B,7,none⟩=some v7/\W.cell? ⟨B,8,none⟩=some v8):
 (results Tryz.f90 tmps).run Tryz.prog W= .ok (.agg #[v0,v1,v2,v3,v4,v5,v6,v7,v8]) W:=by
 obtain ⟨q0,q1,q2,q3,q4,q5,q6,q7,q8⟩:=q;simp [results,Tryz.results90,go_sem,h,q0,q1,q2,q3,q4,q5,q6,q7,q8]
theorem zkX {Q:Nat->Prop} {w:World} {h:Ch} {c:Ct} (hc:zaV Q w h c) (hQ:∀j,Q j->j < w.heap.size) (Fq:c.groups.length<=8) (E8:c.books.length<=8) (Vk:∀x ∈ c.groups,x.ms.length<=8) (Ml:∀x ∈ c.books,x.ms.length<=8) (v:Int):
 Calls Tryz.prog 90 #[h.val c, .int .i64 v] w fun e w'=> ∃h':Ch,e= .returned (h'.val (c.forget v))/\zaV Q w' h' (c.forget v)/\Below w.heap.size w w':=by
 obtain ⟨w1,Ab⟩:∃w1,w1=(w.alloc (.cells (h.cells c) 54)).alloc (.cells zcr 54):=⟨_,rfl⟩;have Aa:Below w.heap.size w w1:=by rw [Ab];exact (zr.alloc zl _).alloc uh _
 have Ai:w1.heap.size=w.heap.size+2:=by rw [Ab,World.alloc_size,World.alloc_size]
 have hX:w1.heap[w.heap.size]? =some (.cells (h.cells c) 54 (0,0)):=by rw [Ab,Below.heap_alloc _ _ _ uh];exact heap_alloc_new w _
 have hY:w1.heap[w.heap.size+1]? =some (.cells zcr 54 (0,0)):=by
  have:=heap_alloc_new (w.alloc (.cells (h.cells c) 54)) (.cells zcr 54);rw [World.alloc_size] at this;rw [Ab];exact this
 have Gb:h.gl.length=c.groups.length:=by rw [<- hc.groupsE,List.length_map]
 have CC:h.bl.length=c.books.length:=by rw [<- hc.booksE,List.length_map]
 have hC:=zh (zn hc hQ);have HG:=zh (zn Gb (zn hc.groups.row.row (fun x hx=> zn (hc.groups.sub x hx).row (Vk x.v (by rw [<- hc.groupsE];exact List.mem_map.2 ⟨x,hx,rfl⟩)))))
 have HK:=zh (zn CC (zn hc.books.row.row (fun x hx=> zn (hc.books.sub x hx).row (Ml x.v uK))));have Ak:=zh (zn Aa (zn Ai (zn hX hY)));obtain ⟨x0,x1,x2,x3,x4,x5,x6,x7,x8,-⟩:=zaf hX;clear hc hQ Aa Ai hX hY Gb CC Vk Ml;unfold Ch.val;unfold Ch.cells zcr at *;go_in;go_upto_region 1 with fail;rw [<- Ab];clear Ab;generalize Jn:c.groups.length=n1 at *;generalize BH:c.books.length=n2 at *;have Ez:=zh (zn Jn BH);clear Jn BH;go_wp2_with fail
 go_loopw [5,14] (fun u5 u wr=> ∃(i:Nat) (l':List Gh),i<=n1/\u= .int .i64 i/\zfK zgQ 2 zcm 1 Gh.a (fun x=> x.v.ms) 180 w1.heap.size wr u5 l'/\l'.map Gh.v=(c.groups.take i).filterMap (fG v)/\Below w1.heap.size w1 wr) (fun _ u _=> n1 - (intOf u).toNat)
 case atStart=> exact ⟨0, [],ud,rfl,⟨World.ownsRow_nil _ _ _ _,uh⟩,uh,Below.refl _ _⟩
 case round=>
  obtain ⟨i,l',hi,rfl,hH,hE,hb⟩:=hrel;have HR:=zh (zn hH (zn hE hb));clear hE
  by_cases hlt:i < n1
  ·have Bb:(i:Int) < (n1:Int):=ud;have AD:(0:Int)<=(i:Int):=ud;obtain ⟨x,hx⟩:∃x,h.gl[i]? =some x:=⟨_,ze (by have:=HG.out.1;omega)⟩
   have Aq:Below w.heap.size w wr:=Ak.out.1.trans (HR.out.2.2.mono ui);obtain ⟨b,o,FE,hc⟩:=(HG.out.2.1.below Aq zl).2 i x hx;have c0:=hc 0 _ rfl;have c1:=hc 1 _ rfl
   skip
   simp only [Nat.add_zero] at c0;have AP:=HG.out.2.2 x (zm hx);have Aa:=Aq.alloc Aq.size (.cells #[.int .i64 (x.v.id:Int), .slice x.a x.v.ms.length x.c] 180);have HW:=zh (zkq (c:=x.c) (AP.1.below Aa zl) (by have:=AP.2;omega) v)
   have Ek:=heap_alloc_new wr (.cells #[.int .i64 (x.v.id:Int), .slice x.a x.v.ms.length x.c] 180);have GQ:=World.alloc_size wr (.cells #[.int .i64 (x.v.id:Int), .slice x.a x.v.ms.length x.c] 180);have Ar:=(Below.refl wr.heap.size wr).alloc zl (.cells #[.int .i64 (x.v.id:Int), .slice x.a x.v.ms.length x.c] 180);rw [GQ] at HW;have Cz:=zh (zn Ek (zn GQ (zn Ar (List.getElem?_map (f:=Gh.v) (l:=h.gl) (i:=i)))));have HX:=zh hx;have Fc:∀W:World,True:=fun _=> trivial;clear hx hc hb Aq Aa AP Ek GQ Ar Fc hH;simp only [FE] at *;go_wp2_with fail;refine HW.out.mono ?_;rintro e w5 ⟨v5,rfl,AV,Ag⟩;have Cw:=(Ag.block wr.heap.size uM).trans Cz.out.1;obtain ⟨ma,mc,rfl,Jm,-,JJ⟩:=AV.row zT;obtain ⟨ms,KJ⟩:∃ms,ms=x.v.ms.filter fun y=> decide (y≠v):=⟨_,rfl⟩;rw [<- KJ] at Jm ⊢;have p0:=cell_of_row _ _ 0 _ _ _ Cw;have p1:=cell_of_row _ _ 1 _ _ _ Cw
   skip
   have pf:w5.frozen? ⟨wr.heap.size,1,none⟩=false:=by simp [World.frozen?,Cw]
   obtain ⟨w6,GW⟩:∃w6,w6=w5.setCell ⟨wr.heap.size,1,none⟩ (.slice ma ms.length mc):=⟨_,rfl⟩;have JF:w6.heap[wr.heap.size]? =some (.cells #[.int .i64 (x.v.id:Int), .slice ma ms.length mc] 180 (0,0)):=by rw [GW];exact heap_setCell_same _ _ 1 _ _ _ Cw
   have AX:w5.grownBy w6 (some wr.heap.size):=by rw [GW];exact zq w5 ⟨wr.heap.size,1,none⟩ _
   have CM:Below wr.heap.size wr w6:=(Cz.out.2.2.1.trans (Ag.mono uM)).grown AX (by have:=Cz.out.2.1;have:=Ag.size;omega) (fun k hk=> by cases hk;exact zl)
   have RO:=HR.out.1.below zT uf CM;have Km:=HR.out.2.2.trans (CM.mono HR.out.2.2.size);have GD:fG v x.v=if ms= [] then none else some (⟨x.v.id,ms⟩:Gp):=by rw [KJ];rfl
   have MU:(c.groups.take (i+1)).filterMap (fG v)=(c.groups.take i).filterMap (fG v)++(fG v x.v).toList:=by
        have h9:=congrArg (fun l=> l[i]?) hC.out.1.groupsE;simp only [List.getElem?_map,HX.out,Option.map_some] at h9;rw [List.take_add_one,<- h9,List.filterMap_append]
        cases SU:fG v x.v <;> simp [SU]
   have HM:=zh (zn Jm (zn JJ (zn AX (zn Ag (zn GD MU)))));have H6:=zh (zn RO Km);clear HW Ag AV Cw Jm JJ AX CM RO Km KJ GD MU
   by_cases hm:ms= []
   ·have DT:¬((0:Int) < (ms.length:Int)):=by rw [hm];simp
    obtain ⟨q0,q1,-⟩:=zoR JF;have hF:(c.groups.take (i+1)).filterMap (fG v)=l'.map Gh.v:=by rw [HM.out.2.2.2.2.2,HM.out.2.2.2.2.1,if_pos hm,HR.out.2.1];simp
    have HF:=zh hF;clear hm JF hF;go_upto_region 6 with fail;rw [<- GW];clear GW;go_wp2_with fail
    go_roundw
    case rel=> exact ⟨i+1,l',ud,by go_num,H6.out.1,HF.out.symm,H6.out.2⟩
    case measure=> simp [intOf];omega
   have DT:(0:Int) < (ms.length:Int):=by have:=List.length_pos_iff.2 hm;omega
   obtain ⟨q0,q1,-⟩:=zoR JF;have GU:zaM (fun j=> j < w1.heap.size\/u5.ownBlock=some j) zcm 1 w6 ma ms:=by
    have h0:zaM (fun j=> j < wr.heap.size+1) zcm 1 w5 ma ms:=⟨HM.out.1,fun b o hb _ hq=> by have:=(HM.out.2.1 b o hb).1;omega⟩
    have h1:=h0.outs zT uf (zD.of_grown HM.out.2.2.1 (fun r hr=> .inl ubd)) (Q':=fun j=> j < wr.heap.size+1) (fun _ h=> .inl h);refine h1.sub fun j hj=> ?_;rcases hj with hj | hj
    ·have:=HR.out.2.2.size;omega
    have:=(HR.out.1.row.lt j hj).2;omega
   have KB:l'.length<=100000000:=by
    have h1:=congrArg List.length HR.out.2.1;rw [List.length_map] at h1;have h2:=List.length_filterMap_le (fG v) (c.groups.take i);rw [List.length_take] at h2
    omega
   obtain ⟨v7,w7,NV,I6,FH⟩:=H6.out.1.push zaH uf zeS zT uf Tryz.underlying49 zj0 rfl uf (⟨⟨x.v.id,ms⟩,ma,mc⟩:Gh) GU KB H6.out.2.size;have hF:(l'++ [(⟨⟨x.v.id,ms⟩,ma,mc⟩:Gh)]).map Gh.v=(c.groups.take (i+1)).filterMap (fG v):=by rw [HM.out.2.2.2.2.2,HM.out.2.2.2.2.1,if_neg hm,List.map_append,HR.out.2.1];simp
   have B1:=Below.own H6.out.2 H6.out.1.row FH zl H6.out.2.size;have HF:=zh (zn I6 (zn hF B1));unfold zgQ at NV;clear hm JF hF GU KB I6 FH B1;go_upto_region 6 with fail;rw [<- GW];clear GW p0 p1 pf
   go_wp2_with (at_builtin;refine za rfl _ _ _ rfl NV ?_)
   go_roundw
   case rel=> exact ⟨i+1,_,ud,by go_num,HF.out.1,HF.out.2.1,HF.out.2.2⟩
   case measure=> simp [intOf];omega
  obtain rfl:n1=i:=ud;clear hlt;obtain ⟨ga,gn,gc,rfl⟩:=hH.row.form;obtain ⟨wa,Ld⟩:∃wa,wa=wr:=⟨_,rfl⟩;have OI:=(HR.out.2.2.block w.heap.size ui).trans Ak.out.2.2.1;have Z9:=(HR.out.2.2.block (w.heap.size+1) ui).trans Ak.out.2.2.2;obtain ⟨x0,x1,x2,x3,x4,x5,x6,x7,x8,-⟩:=zJ OI;have HA:=zh (zn (Ak.out.1.trans (HR.out.2.2.mono ui)) (zn OI (zn Z9 HR.out)));subst Ld;clear hH hb HR OI Z9 hi;go_wp2_with fail
  go_loopw [8,35] (fun u5 u wr=> ∃(i:Nat) (l':List Bh),i<=n2/\u= .int .i64 i/\zfK zgP 3 zcm 1 Bh.a (fun x=> x.v.ms) 132 wa.heap.size wr u5 l'/\l'.map Bh.v=(c.books.take i).filterMap (fB v)/\Below wa.heap.size wa wr) (fun _ u _=> n2 - (intOf u).toNat)
  case atStart=> exact ⟨0, [],ud,rfl,⟨World.ownsRow_nil _ _ _ _,uh⟩,uh,Below.refl _ _⟩
  case round=>
       obtain ⟨i,l',hi,rfl,hH,hE,hb⟩:=hrel;have HR:=zh (zn hH (zn hE hb));clear hE
       by_cases hlt:i < n2
       ·have Bb:(i:Int) < (n2:Int):=ud;have AD:(0:Int)<=(i:Int):=ud;obtain ⟨x,hx⟩:∃x,h.bl[i]? =some x:=⟨_,ze uay⟩;have Aq:Below w.heap.size w wr:=HA.out.1.trans (HR.out.2.2.mono HA.out.1.size);obtain ⟨b,o,FE,hc⟩:=(HK.out.2.1.below Aq zl).2 i x hx;have c0:=hc 0 _ rfl;have c1:=hc 1 _ rfl;have c2:=hc 2 _ rfl;simp only [Nat.add_zero] at c0;have AP:=HK.out.2.2 x (zm hx);have Aa:=Aq.alloc Aq.size (.cells #[.int .i64 (x.v.id:Int), .int .u64 (x.v.seq:Int), .slice x.a x.v.ms.length x.c] 132);have HW:=zh (zkq (c:=x.c) (AP.1.below Aa zl) (by have:=AP.2;omega) v)
        have Ek:=heap_alloc_new wr (.cells #[.int .i64 (x.v.id:Int), .int .u64 (x.v.seq:Int), .slice x.a x.v.ms.length x.c] 132);have GQ:=World.alloc_size wr (.cells #[.int .i64 (x.v.id:Int), .int .u64 (x.v.seq:Int), .slice x.a x.v.ms.length x.c] 132);have Ar:=(Below.refl wr.heap.size wr).alloc zl (.cells #[.int .i64 (x.v.id:Int), .int .u64 (x.v.seq:Int), .slice x.a x.v.ms.length x.c] 132);rw [GQ] at HW;have Cz:=zh (zn Ek (zn GQ (zn Ar (List.getElem?_map (f:=Bh.v) (l:=h.bl) (i:=i)))));have HX:=zh hx;have Fc:∀W:World,True:=fun _=> trivial;clear hx hc hb Aq Aa AP Ek GQ Ar Fc hH;simp only [FE] at *;go_wp2_with fail;refine HW.out.mono ?_;rintro e w5 ⟨v5,rfl,AV,Ag⟩;have Cw:=(Ag.block wr.heap.size uM).trans Cz.out.1;obtain ⟨ma,mc,rfl,Jm,-,JJ⟩:=AV.row zT;obtain ⟨ms,KJ⟩:∃ms,ms=x.v.ms.filter fun y=> decide (y≠v):=⟨_,rfl⟩;rw [<- KJ] at Jm ⊢;obtain ⟨p0,p1,p2⟩:=rd3 Cw;have pf:w5.frozen? ⟨wr.heap.size,2,none⟩=false:=by simp [World.frozen?,Cw]
        obtain ⟨w6,GW⟩:∃w6,w6=w5.setCell ⟨wr.heap.size,2,none⟩ (.slice ma ms.length mc):=⟨_,rfl⟩;have JF:w6.heap[wr.heap.size]? =some (.cells #[.int .i64 (x.v.id:Int), .int .u64 (x.v.seq:Int), .slice ma ms.length mc] 132 (0,0)):=by rw [GW];exact heap_setCell_same _ _ 2 _ _ _ Cw
        have AX:w5.grownBy w6 (some wr.heap.size):=by rw [GW];exact zq w5 ⟨wr.heap.size,2,none⟩ _
        have CM:Below wr.heap.size wr w6:=(Cz.out.2.2.1.trans (Ag.mono uM)).grown AX (by have:=Cz.out.2.1;have:=Ag.size;omega) (fun k hk=> by cases hk;exact zl)
        have RO:=HR.out.1.below zT uf CM;have Km:=HR.out.2.2.trans (CM.mono HR.out.2.2.size);have GD:fB v x.v=if ms= [] then none else some (⟨x.v.id,x.v.seq,ms⟩:Bk):=by rw [KJ];rfl
        have MU:(c.books.take (i+1)).filterMap (fB v)=(c.books.take i).filterMap (fB v)++(fB v x.v).toList:=by
         have h9:=congrArg (fun l=> l[i]?) hC.out.1.booksE;simp only [List.getElem?_map,HX.out,Option.map_some] at h9;rw [List.take_add_one,<- h9,List.filterMap_append]
         cases SU:fB v x.v <;> simp [SU]
        have HM:=zh (zn Jm (zn JJ (zn AX (zn Ag (zn GD MU)))));have H6:=zh (zn RO Km);clear HW Ag AV Cw Jm JJ AX CM RO Km KJ GD MU
        by_cases hm:ms= []
        ·have DT:¬((0:Int) < (ms.length:Int)):=by rw [hm];simp
         obtain ⟨q0,q1,q2,-⟩:=zbb JF;have hF:(c.books.take (i+1)).filterMap (fB v)=l'.map Bh.v:=by rw [HM.out.2.2.2.2.2,HM.out.2.2.2.2.1,if_pos hm,HR.out.2.1];simp
         have HF:=zh hF;clear hm JF hF;go_upto_region 14 with fail;rw [<- GW];clear GW;go_wp2_with fail
         go_roundw
         case rel=> exact ⟨i+1,l',ud,by go_num,H6.out.1,HF.out.symm,H6.out.2⟩
         case measure=> simp [intOf];omega
        have DT:(0:Int) < (ms.length:Int):=by have:=List.length_pos_iff.2 hm;omega
        obtain ⟨q0,q1,q2,-⟩:=zbb JF;have GU:zaM (fun j=> j < wa.heap.size\/u8.ownBlock=some j) zcm 1 w6 ma ms:=by
         have h0:zaM (fun j=> j < wr.heap.size+1) zcm 1 w5 ma ms:=⟨HM.out.1,fun b o hb _ hq=> by have:=(HM.out.2.1 b o hb).1;omega⟩
         have h1:=h0.outs zT uf (zD.of_grown HM.out.2.2.1 (fun r hr=> .inl ubd)) (Q':=fun j=> j < wr.heap.size+1) (fun _ h=> .inl h);refine h1.sub fun j hj=> ?_;rcases hj with hj | hj
         ·have:=HR.out.2.2.size;omega
         have:=(HR.out.1.row.lt j hj).2;omega
        have KB:l'.length<=100000000:=by
         have h1:=congrArg List.length HR.out.2.1;rw [List.length_map] at h1;have h2:=List.length_filterMap_le (fB v) (c.books.take i);rw [List.length_take] at h2
         omega
        obtain ⟨v7,w7,NV,I6,FH⟩:=H6.out.1.push zaG uf zeR zT uf Tryz.underlying50 zjZ rfl uf (⟨⟨x.v.id,x.v.seq,ms⟩,ma,mc⟩:Bh) GU KB H6.out.2.size;have hF:(l'++ [(⟨⟨x.v.id,x.v.seq,ms⟩,ma,mc⟩:Bh)]).map Bh.v=(c.books.take (i+1)).filterMap (fB v):=by rw [HM.out.2.2.2.2.2,HM.out.2.2.2.2.1,if_neg hm,List.map_append,HR.out.2.1];simp
        have B1:=Below.own H6.out.2 H6.out.1.row FH zl H6.out.2.size;have HF:=zh (zn I6 (zn hF B1));unfold zgP at NV;clear hm JF hF GU KB I6 FH B1;go_upto_region 14 with fail;rw [<- GW];clear GW p0 p1 pf
        go_wp2_with (at_builtin;refine za rfl _ _ _ rfl NV ?_)
        go_roundw
        case rel=> exact ⟨i+1,_,ud,by go_num,HF.out.1,HF.out.2.1,HF.out.2.2⟩
        case measure=> simp [intOf];omega
       obtain rfl:n2=i:=ud;clear hlt;obtain ⟨ba,bn,bc,rfl⟩:=hH.row.form;have R9:=(HR.out.2.2.block w.heap.size (zg HA.out.2.1).1).trans HA.out.2.1;have O3:=(HR.out.2.2.block (w.heap.size+1) (zg HA.out.2.2.1).1).trans HA.out.2.2.1;obtain ⟨w5,Co⟩:∃w5,w5=(wr.setCell ⟨w.heap.size,5,none⟩ (.slice ga gn gc)).setCell ⟨w.heap.size,6,none⟩ (.slice ba bn bc):=⟨_,rfl⟩;have Cw:w5.heap[w.heap.size]? =some (.cells #[.int .i64 (c.nv:Int), .int .i64 (c.ng:Int), .int .i64 (c.nb:Int), .int .u64 (c.fl:Int), .slice h.va c.vols.length h.vc, .slice ga gn gc, .slice ba bn bc, .slice h.ka c.kept.length h.kc, .slice h.ta c.times.length h.tc] 54 (0,0)):=by
        rw [Co];exact heap_setCell_same _ _ 6 _ _ _ (heap_setCell_same _ _ 5 _ _ _ R9)
       have Bj:wr.grownBy w5 (some w.heap.size):=by rw [Co];exact (zq wr ⟨w.heap.size,5,none⟩ _).trans (zq _ ⟨w.heap.size,6,none⟩ _)
       have Fk:=(Bj.block (w.heap.size+1) (zg O3).1 uh).trans O3;have FM:=zh (zn Cw (zn Bj Fk));clear x0 x1 x2 x3 x4 x5 x6 x7 x8 hH hb;obtain ⟨x0,x1,x2,x3,x4,x5,x6,x7,x8,xf⟩:=zJ R9;have f5:=xf 5;have f6:(wr.setCell ⟨w.heap.size,5,none⟩ (.slice ga gn gc)).frozen? ⟨w.heap.size,6,none⟩=false:=(zJ (heap_setCell_same _ _ 5 _ _ (.slice ga gn gc) R9)).2.2.2.2.2.2.2.2.2 6;have e6:=(zJ (heap_setCell_same _ _ 5 _ _ (.slice ga gn gc) R9)).2.2.2.2.2.2.1;clear xf R9 O3 Cw Bj Fk;go_upto_region 18 with fail;rw [<- Co];clear Co x0 x1 x2 x3 x4 x5 x6 x7 x8 f5 f6 e6;obtain ⟨x0,x1,x2,x3,x4,x5,x6,x7,x8,-⟩:=zJ FM.out.1;obtain ⟨y0,y1,y2,y3,y4,y5,y6,y7,y8,yf⟩:=zJ FM.out.2.2;have f0:=yf 0;have f1:=yf 1;have f2:=yf 2;have f3:=yf 3;have f4:=yf 4;have f5:=yf 5;have f6:=yf 6;have f7:=yf 7;have f8:=yf 8;clear yf;go_wp2_with fail;have Ad:=zeE FM.out.2.2 (.int .i64 (c.nv:Int)) (.int .i64 (c.ng:Int)) (.int .i64 (c.nb:Int)) (.int .u64 (c.fl:Int)) (.slice h.va c.vols.length h.vc) (.slice ga gn gc) (.slice ba bn bc) (.slice h.ka c.kept.length h.kc) (.slice h.ta c.times.length h.tc);have BL:=zae (B:=w.heap.size+1) (zD.refl _ w5) rfl (.int .i64 (c.nv:Int)) (.int .i64 (c.ng:Int)) (.int .i64 (c.nb:Int)) (.int .u64 (c.fl:Int)) (.slice h.va c.vols.length h.vc) (.slice ga gn gc) (.slice ba bn bc) (.slice h.ka c.kept.length h.kc) (.slice h.ta c.times.length h.tc);obtain ⟨r0,r1,r2,r3,r4,r5,r6,r7,r8,-⟩:=zJ Ad;refine bodyPost_ret (zfP _ (w.heap.size+1) _ _ _ _ _ _ _ _ _ _ rfl ⟨r0,r1,r2,r3,r4,r5,r6,r7,r8⟩) rfl ?_;clear Ad r0 r1 r2 r3 r4 r5 r6 r7 r8 x0 x1 x2 x3 x4 x5 x6 x7 x8 y0 y1 y2 y3 y4 y5 y6 y7 y8 f0 f1 f2 f3 f4 f5 f6 f7 f8;generalize World.setCell _ (⟨w.heap.size+1,8,none⟩:Addr) _=W at *;have hz:=Ak.out.2.1;have GO:zD (fun j=> j=w.heap.size\/j=w.heap.size+1) wr W:=(zD.turn (D:=fun j=> j=w.heap.size\/j=w.heap.size+1) FM.out.2.1 (.inl rfl)).trans (BL.more (D':=fun j=> j=w.heap.size\/j=w.heap.size+1) (fun _ h=> .inr h)) (fun _ h=> .inl h);have hb0r:Below w.heap.size w wr:=HA.out.1.trans (HR.out.2.2.mono HA.out.1.size);have CF:Below w.heap.size w W:=⟨GO.os.trans hb0r.os,GO.tape.trans hb0r.tape,GO.output.trans hb0r.output,zs hb0r.size GO.size,fun j hj=> (GO.block j (zt hj hb0r.size) ud).trans (hb0r.block j hj)⟩;have A0:=hC.out.1.below CF;have yq:=(HA.out.2.2.2.2.2).size
       -- the groups' row
       have ON:=HA.out.2.2.2.1.below zT uf HR.out.2.2;obtain ⟨ga',gc',Lr,BN,-,G6⟩:=ON.row.row zaH;simp only [Value.slice.injEq] at Lr;obtain ⟨rfl,rfl,rfl⟩:=Lr;obtain ⟨ba',bc',JG,AA,-,E7⟩:=HR.out.1.row.row zaG;simp only [Value.slice.injEq] at JG;obtain ⟨rfl,rfl,rfl⟩:=JG;have yO:zaM (fun j=> j=w.heap.size\/j=w.heap.size+1) zgQ 2 W ga _:=zaM.outs zaH uf ⟨BN,fun b o hb _ hq=> by have:=(G6 b o hb).1;omega⟩ GO (fun _ h=> .inl h)
       have XL:zaM (fun j=> j=w.heap.size\/j=w.heap.size+1) zgP 3 W ba _:=zaM.outs zaG uf ⟨AA,fun b o hb _ hq=> by have:=(E7 b o hb).1;omega⟩ GO (fun _ h=> .inl h)
       have BF:∀x ∈ _,zaM Q zcm 1 W _ _:=fun x hx=> ((ON.sub x hx).outs zT uf (GO.more (D':=fun j=> j < w1.heap.size\/(Value.slice ga _ gc).ownBlock=some j) (fun j h=> .inl ud)) (Q':=fun j=> j < w1.heap.size) (fun _ h=> .inl (.inl h))).sub (fun j hj=> by have:=hC.out.2 j hj;omega)
       have Au:∀x ∈ _,zaM Q zcm 1 W _ _:=fun x hx=> ((HR.out.1.sub x hx).outs zT uf (GO.more (D':=fun j=> j < wa.heap.size\/(Value.slice ba _ bc).ownBlock=some j) (fun j h=> .inl ud)) (Q':=fun j=> j < wa.heap.size) (fun _ h=> .inl (.inl h))).sub (fun j hj=> by have:=hC.out.2 j hj;omega)
       have OL:=HA.out.2.2.2.2.1;have Ka:=HR.out.2.1;rw [zk (by have:=Ez.out.1;omega)] at OL
       rw [zk (by have:=Ez.out.2;omega)] at Ka
       rw [zmp];refine ⟨{h with ga:=ga,gc:=gc,gl:=_,ba:=ba,bc:=bc,bl:=_}, ?_,⟨A0.vols,A0.volsE,⟨⟨yO.row,fun b o hb hl hq=> ?_⟩,BF⟩,OL,⟨⟨XL.row,fun b o hb hl hq=> ?_⟩,Au⟩,Ka,A0.kept,A0.times⟩,CF⟩
       ·try unfold Ch.val Ch.cells
        simp only [<- OL,<- Ka,List.length_map]
       ·have:=(G6 b o hb).1;have:=hC.out.2 b hq;omega
       have:=(E7 b o hb).1;have:=hC.out.2 b hq;omega
end
end Go.Proofs.YtaoceecfjlkmdaaGreat
