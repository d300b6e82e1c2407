/- Lemmas of the walks, merged and pressed by press.py. Conditions: those of each theorem. -/
import Derived.Test.YtfldlfladcfggaaGreatM2
import Derived.Deep.RegionLaw
import Derived.Laws.MakeOwn
import Derived.Test.YtfldlfladcfggaaGreatM1
import Derived.Deep.Cut
set_option maxRecDepth 100000
set_option maxHeartbeats 64000000
set_option linter.all false
namespace Go.Proofs.YtfldlfladcfggaaGreat
section
open Go.RowKit
def Bs (w:World) (a:Option Addr) (n:Nat) (l:List UInt8):Prop:=Is .u8 w a n (l.map fun c=> (c.toNat:Int))
theorem zi2:(Tryz.prog.info? 5).map (fun i=> (i.zero,i.size,i.bytes))=some (some (.int .u8 0),1,1):=by kernel_rfl
theorem zdn (l:List UInt8) (k:Nat) (h:k < l.length):(l.map fun c=> (c.toNat:Int)).getD k 0=(l[k].toNat:Int):=by
 rw [List.getD_eq_getElem?_getD,List.getElem?_map,ze h];rfl
def zc (l:List UInt8):List Value:=l.map fun c=> .int .u8 (c.toNat:Int)
theorem zbY (a b:List UInt8):zc (a++b)=zc a++zc b:=by simp [zc]
theorem zdp {w:World} {base n:Nat} {e:TypeId} {size:Nat} {v:Value} {c:List Value} (h:w.ownsRow base e size v n c) (h0:0 < n):∃g cap,v= .slice (some ⟨g,0,none⟩) n cap:=by
 rcases h.2 with ⟨rfl,h2⟩ | ⟨g,cap,cur,rfl,_⟩
 ·omega
 ·exact ⟨_,_,rfl⟩
theorem Bs.cell {w:World} {a:Option Addr} {n:Nat} {l:List UInt8} (h:Bs w a n l) (k:Nat) (hk:k < n):
 ∃(b o:Nat) (c:UInt8),a=some ⟨b,o,none⟩∧l[k]? =some c∧w.cell? ⟨b,o+k,none⟩=some (.int .u8 (c.toNat:Int))∧b < w.heap.size:=by
 have hl:l.length=n:=by have:=h.len;simpa using this
 obtain ⟨b,o,ha,hc⟩:=h.at (by omega)
 have GB:=hc k hk;rw [zdn l k (by omega)] at GB
 exact ⟨b,o,l[k],ha,ze (by omega),GB,zb w _ GB⟩
theorem Bs.length {w:World} {a:Option Addr} {n:Nat} {l:List UInt8} (h:Bs w a n l):l.length=n:=by have:=h.len;simpa using this
theorem Bs.none' {w:World} (a:Option Addr):Bs w a 0 []:=⟨rfl,fun i x hx=> by simp at hx⟩
theorem ziw {w:World} {base:Nat} {v:Value} {acc:List UInt8} (Af:w.ownsRow base 5 1 v acc.length (zc acc)) {b o m:Nat} (c:Nat) {l:List UInt8} (hs:Bs w (some ⟨b,o,none⟩) m l)
 (Ac:acc.length+m≤100000000000) (Cx:base≤w.heap.size):
 ∃v' w',(Builtin.append_ #[25,25] 25 #[v, .slice (some ⟨b,o,none⟩) m c]).run Tryz.prog w= .ok v' w'∧w'.ownsRow base 5 1 v' (acc++l).length (zc (acc++l))∧w.grownBy w' v.ownBlock:=by
 obtain ⟨i0,hi,AG,Ai,Ax⟩:=info_parts zi2;have hl:=hs.length;obtain ⟨v',w',hr,h2,h3,_⟩:=run_append_own (P:=Tryz.prog) w base 25 25 5 i0 (.int .u8 0) 1 1 Tryz.underlying25 hi AG Ai Ax rfl (by decide) v acc.length (zc acc) Af ⟨b,o,none⟩ m c (zc l) (by simp [zc,hl]) (fun j u hu=> by
  have hj:j < l.length:=by have:=(zi hu).1;simpa [zc] using this
  obtain ⟨b',o',ch,ha,hc,Bn,_⟩:=hs.cell j (by omega)
  cases ha
  rw [add_plain',Bn];simp only [zc,List.getElem?_map,hc,Option.map_some,Option.some.injEq] at hu;rw [hu]) (fun u hu=> by simp [zc] at hu;obtain ⟨x,_,rfl⟩:=hu;rfl) (by unfold maxLen;omega) (by omega) Cx
 refine ⟨v',w',hr, ?_,h3⟩;rw [List.length_append,zbY,hl];exact h2
 where add_plain' {b o n:Nat}:(⟨b,o,none⟩:Addr).add n=⟨b,o+n,none⟩:=by unfold Addr.add;split <;> simp_all
theorem znR {w:World} {base:Nat} {v:Value} {acc:List UInt8} (Af:w.ownsRow base 5 1 v acc.length (zc acc)) (z:Int) (c:UInt8) (hz:z=(c.toNat:Int))
 (Ac:acc.length+1≤100000000000) (Cx:base≤w.heap.size):
 ∃v' w',(Builtin.append_ #[25,25] 25 #[v, .slice (some ⟨w.heap.size,0,none⟩) 1 1]).run Tryz.prog (w.alloc (.cells #[.int .u8 z] 5))= .ok v' w'∧w'.ownsRow base 5 1 v' (acc++ [c]).length (zc (acc++ [c]))∧w.grownBy w' v.ownBlock:=by
 obtain ⟨i0,hi,AG,Ai,Ax⟩:=info_parts zi2;obtain ⟨v',w',BE,ET,BN,_⟩:=zlX (P:=Tryz.prog) Tryz.underlying25 hi AG Ai Ax rfl (by decide) Af 1 [.int .u8 z] rfl (by simp [Value.oneCell']) (by unfold maxLen;omega) (by omega) Cx
 refine ⟨v',w',BE, ?_,BN⟩;subst hz;rw [List.length_append,zbY];exact ET
theorem zl3 {w:World} {b o n:Nat} (c:Nat) {l:List UInt8} (h:Bs w (some ⟨b,o,none⟩) n l) (hn:n≤10000000000):
 ∃v' w',(Builtin.append_ #[25,25] 25 #[.slice (some ⟨w.heap.size,0,none⟩) 0 0, .slice (some ⟨b,o,none⟩) n c]).run Tryz.prog (w.alloc (.cells #[] 5))= .ok v' w'∧w'.ownsRow w.heap.size 5 1 v' l.length (zc l)∧Below w.heap.size w w':=by
 have Aq:Below w.heap.size w (w.alloc (.cells #[] 5)):=zr.alloc zl _;have Af:(w.alloc (.cells #[] 5)).ownsRow w.heap.size 5 1 (.slice (some ⟨w.heap.size,0,none⟩) 0 0) ([]:List UInt8).length (zc []):=World.ownsRow_made w #[] 0 zl (Nat.zero_le _) (by simp)
 obtain ⟨v',w',BE,ho,hg⟩:=ziw Af c (h.below Aq zl) (by simp;omega) Aq.size
 rw [List.nil_append] at ho;exact ⟨v',w',BE,ho,Below.own Aq Af hg zl Aq.size⟩
theorem zfG {P:Program} {w:World} {ops:Array Oper} {o:Oper} {a:Act} {K:Act→World→Prop} {Q:Exit→Act→World→Prop} {E:Prop} (hw:Region.wanted o (yielded ops a.tmps)=true) (s x:Operand) (t:TypeId)
 (ho:o.op= .call {callee:= .builtin .append,args:=#[s,x],argTypes:=#[t,t]}) {v':Value} {w':World}
 (Be:(Builtin.append_ #[t,t] o.type #[a.eval s,a.eval x]).run P w= .ok v' w') (h:K (a.put o.dst v') w'):if Region.wanted o (yielded ops a.tmps)=true then Oper.wp P o a w K Q else E:=by
 rw [if_pos hw];unfold Oper.wp execOp;simp only [ho,resolve,invoke,builtin,Sem.run_bind,Sem.run_pure,Result.andThen_ok,List.map_toArray,List.map_cons,List.map_nil,Be];exact h
theorem zc0 {w:World} {B C:Nat} {e:TypeId} {size n:Nat} {v:Value} {xs:List Value} (h:w.ownsRow B e size v n xs) (hC:C≤B):w.ownsRow C e size v n xs:=by
 refine ⟨h.1, ?_⟩;rcases h.2 with h2 | ⟨g,cap,cur,hv,hb,r⟩
 ·exact .inl h2
 ·exact .inr ⟨g,cap,cur,hv,by omega,r⟩
theorem zok {w w':World} {base:Nat} {e:TypeId} {size n:Nat} {v:Value} {xs:List Value} (h:w.ownsRow base e size v n xs) (hb:Below w.heap.size w w'):w'.ownsRow base e size v n xs:=by
 refine ⟨h.1, ?_⟩;rcases h.2 with h2 | ⟨g,cap,cur,hv,Bc,hg,hr⟩
 ·exact .inl h2
 ·have BF:g < w.heap.size:=(zg hg).1;exact .inr ⟨g,cap,cur,hv,Bc,by rw [hb.block g BF];exact hg,hr⟩
theorem zmV {w:World} {base n:Nat} {v:Value} {l:List UInt8} (h:w.ownsRow base 5 1 v n (zc l)):∃a cap,v= .slice a n cap∧Bs w a n l∧l.length=n:=by
 have hl:l.length=n:=by have:=h.1;simpa [zc] using this
 rcases h.2 with ⟨rfl,rfl⟩ | ⟨g,cap,cur,rfl,Bc,hg,Ge,Ce,Fo,CY⟩
 ·have:l= []:=List.eq_nil_of_length_eq_zero hl;subst this;exact ⟨none,0,rfl,⟨rfl,fun i x hx=> by simp at hx⟩,rfl⟩
 ·refine ⟨some ⟨g,0,none⟩,cap,rfl,Is.mk' (by simpa using hl) fun i hi=> ?_,hl⟩
  have:=h.cells (g:=g) rfl i (.int .u8 (l[i].toNat:Int)) (by simp [zc,ze (show i < l.length by omega)])
  rw [zdn l i (by omega),← this]
  congr 1
  unfold Addr.add
  split <;> simp_all
theorem zpZ {w:World} {base n:Nat} {e:TypeId} {v:Value} {xs:List Value} (h:w.ownsRow base e 1 v n xs):∃a cap,v= .slice a n cap∧Sl w a n xs∧n≤cap:=by
 have hl:xs.length=n:=by have:=h.1;simpa using this
 rcases h.2 with ⟨rfl,rfl⟩ | ⟨g,cap,cur,rfl,Bc,hg,Ge,Ce,Fo,CY⟩
 ·have:xs= []:=List.eq_nil_of_length_eq_zero hl;subst this;exact ⟨none,0,rfl,⟨rfl,fun i x hx=> by simp at hx⟩,by omega⟩
 ·refine ⟨some ⟨g,0,none⟩,cap,rfl,⟨hl,fun i x hx=> ⟨g,0,rfl, ?_⟩⟩,Ge⟩;have:=h.cells (g:=g) rfl i x hx;rw [← this]
  congr 1
  unfold Addr.add
  split <;> simp_all
theorem zjh {w:World} {base n:Nat} {v:Value} {l:List UInt8} (h:w.ownsRow base 5 1 v n (zc l)):∃a cap,v= .slice a n cap∧Bs w a n l∧n≤cap:=by
 obtain ⟨a,cap,rfl,_,hc⟩:=zpZ h;obtain ⟨a',cap',e,hb,_⟩:=zmV h
 cases e
 exact ⟨a,cap,rfl,hb,hc⟩
theorem Bs.piece {w:World} {b o n:Nat} {l:List UInt8} (h:Bs w (some ⟨b,o,none⟩) n l) (k m:Nat) (hk:k+m≤n):Bs w (some ⟨b,o+k,none⟩) m ((l.drop k).take m):=by
 have hl:=h.length;refine Is.mk' (by simp;omega) fun i hi=> ?_
 obtain ⟨b',o',c,ha,hc,Bn,_⟩:=h.cell (k+i) (by omega)
 cases ha
 rw [Nat.add_assoc,Bn,zdn _ i (by simp;omega)]
 have:((l.drop k).take m)[i]'(by simp;omega)=c:=by
  rw [List.getElem_take,List.getElem_drop];rw [ze (by omega)] at hc
  simpa using hc
 rw [this]
theorem Bs.tail {w:World} {b o n:Nat} {l:List UInt8} (h:Bs w (some ⟨b,o,none⟩) n l) (k:Nat) (hk:k≤n):Bs w (some ⟨b,o+k,none⟩) (n - k) (l.drop k):=by
 have:=Bs.piece h k (n - k) (by omega)
 rw [zk (by rw [List.length_drop,h.length];omega)] at this
 exact this
theorem byte0 (c:UInt8):(c=0→((c.toNat:Int)==0)=true)∧(c≠0→((c.toNat:Int)==0)=false):=by
 refine ⟨fun h=> by rw [h];rfl,fun h=> ?_⟩
 rw [beq_eq_false_iff_ne];intro e;exact h (UInt8.toNat_inj.1 (by simp;omega))
theorem zfd (b o n cap:Nat) (l:List UInt8) (w:World) (h:Bs w (some ⟨b,o,none⟩) n l) (hn:n≤10000000000):
 Calls Tryz.prog 144 #[.slice (some ⟨b,o,none⟩) n cap] w fun e w'=> ∃v,e= .returned v∧w'.ownsRow w.heap.size 5 1 v l.length (zc l)∧Below w.heap.size w w':=by
 obtain ⟨v',w',BE,ho,hb⟩:=zl3 cap h hn;have q22:(binOp .eql 25 (.slice (some ⟨b,o,none⟩) n cap) (.slice none 0 0)).run Tryz.prog w= .ok (.bool false) w:=Lib.run_eql_slice_nil w _ _ _ n cap 0 0 Tryz.underlying25;go_enter Tryz.func144,Tryz.ntmps144
 go_wp2_with (at_builtin;refine za rfl _ _ _ rfl BE ?_)
 go_ret;exact ⟨v',rfl,ho,hb⟩
def leN (k x:Nat):List UInt8:=(List.range k).map fun i=> UInt8.ofNat (x / 256 ^ i)
theorem zoa (k x:Nat):leN (k+1) x=leN k x++ [UInt8.ofNat (x / 256 ^ k)]:=by simp [leN,List.range_succ]
theorem zed (k x:Nat):(leN k x).length=k:=by simp [leN]
end
section
open Go.RowKit
theorem zjb (n:Int) (w:World):Calls Tryz.prog 40 #[.int .i64 n] w fun e w'=> e= .returned (.bool (zfu n))∧w=w':=by
 unfold zfu
 by_cases h1:1≤n
 ·by_cases h2:n≤32
  ·go_enter Tryz.func40,Tryz.ntmps40;go_wp2_with fail;go_ret;exact ⟨by simp [*],rfl⟩
  ·go_enter Tryz.func40,Tryz.ntmps40;go_wp2_with fail;go_ret;exact ⟨by simp [*],rfl⟩
 ·go_enter Tryz.func40,Tryz.ntmps40;go_wp2_with fail;go_ret;exact ⟨by simp;omega,rfl⟩
theorem zj8 (n:Int) (w:World):Calls Tryz.prog 41 #[.int .i64 n] w fun e w'=> e= .returned (.bool (znF n))∧w=w':=by
 unfold znF
 by_cases h1:1≤n
 ·by_cases h2:n≤65535
  ·go_enter Tryz.func41,Tryz.ntmps41;go_wp2_with fail;go_ret;exact ⟨by simp [*],rfl⟩
  ·go_enter Tryz.func41,Tryz.ntmps41;go_wp2_with fail;go_ret;exact ⟨by simp [*],rfl⟩
 ·go_enter Tryz.func41,Tryz.ntmps41;go_wp2_with fail;go_ret;exact ⟨by simp;omega,rfl⟩
theorem zjd (n:Int) (w:World):Calls Tryz.prog 42 #[.int .i64 n] w fun e w'=> e= .returned (.bool (zfv n))∧w=w':=by
 unfold zfv
 by_cases h1:0≤n
 ·by_cases h2:n≤31
  ·have h3:n < 32:=by omega
   go_enter Tryz.func42,Tryz.ntmps42;go_wp2_with fail;go_ret;exact ⟨by simp [*],rfl⟩
  ·have h3:¬n < 32:=by omega
   go_enter Tryz.func42,Tryz.ntmps42;go_wp2_with fail;go_ret;exact ⟨by simp [*],rfl⟩
 ·go_enter Tryz.func42,Tryz.ntmps42;go_wp2_with fail;go_ret;exact ⟨by simp;omega,rfl⟩
theorem Is.cell {k:IntKind} {w:World} {a:Option Addr} {n:Nat} {l:List Int} (h:Is k w a n l) (i:Nat) (hi:i < n):
 ∃(b o:Nat) (x:Int),a=some ⟨b,o,none⟩∧l[i]? =some x∧w.cell? ⟨b,o+i,none⟩=some (.int k x):=by
 have hl:=h.len;obtain ⟨b,o,ha,hc⟩:=h.at (by omega)
 have Mr:=hc i hi;refine ⟨b,o,l[i],ha,ze (by omega), ?_⟩
 rw [Mr]
 congr 2
 simp [List.getD,show i < l.length by omega]
theorem zgv (x:Int):∀(l:List Int) (last:Int),zbU last (l++ [x])=(zbU last l && (decide ((l.getLast?.getD last) < x) && decide (x≤65535)))
 | [],last=> by
   show (decide (last < x) && decide (x≤65535) && true)=(true && (decide (last < x) && decide (x≤65535)))
   rw [Bool.and_true,Bool.true_and]
 | y ::r,last=> by
   simp only [List.cons_append,zbU,zgv x r y];have:((y::r).getLast?.getD last)=(r.getLast?.getD y):=by
     cases r with
     | nil=> rfl
     | cons z r=> simp [List.getLast?_cons]
   rw [this];simp only [Bool.and_assoc]
theorem zlA (l:List Int) (i:Nat) (x:Int) (hx:l[i]? =some x):zbU 0 (l.take (i+1))=(zbU 0 (l.take i) && (decide ((l.take i).getLast?.getD 0 < x) && decide (x≤65535))):=by
 rw [List.take_add_one,hx];exact zgv x _ 0
theorem zfB (l:List Int) (i:Nat) (h:zbU 0 (l.take i)=false):zbU 0 l=false:=by
 have:∀(a b:List Int) (last:Int),zbU last a=false→zbU last (a++b)=false:=by
  intro a
  induction a with
  | nil=> intro b last h;simp [zbU] at h
  | cons y r ih=>
    intro b last h;simp only [List.cons_append,zbU] at h ⊢
    cases hd:(decide (last < y) && decide (y≤65535)) with
    | false=> simp
    | true=> rw [hd] at h;simp only [Bool.true_and] at h ⊢;exact ih b y h
 rw [← List.take_append_drop i l];exact this _ _ 0 h
theorem zic:∀(l:List Int) (last:Int),0≤last→zbU last l=true→0≤l.getLast?.getD last
 | [],last,h,_=> h
 | y ::r,last,h,hr=> by
   simp only [zbU,Bool.and_eq_true,decide_eq_true_eq] at hr;have:((y::r).getLast?.getD last)=(r.getLast?.getD y):=by
     cases r with
     | nil=> rfl
     | cons z r=> simp [List.getLast?_cons]
   rw [this];exact zic r y (by omega) hr.2
theorem zmK (l:List Int) (i:Nat) (x:Int) (hx:l[i]? =some x):(l.take (i+1)).getLast?.getD 0=x:=by
 rw [List.take_add_one,hx];simp
theorem zja (a:Option Addr) (n cap:Nat) (l:List Int) (w:World) (h:Is .i64 w a n l) (hn:n≤1000000000):
 Calls Tryz.prog 43 #[.slice a n cap] w fun e w'=> e= .returned (.bool (zfT l))∧w=w':=by
 have HB:=zh h;have HL:=zh h.len;obtain ⟨r,hr⟩:∃r,r=zfT l:=⟨_,rfl⟩;rw [← hr];have HR:=zh hr;clear h hr;go_enter Tryz.func43,Tryz.ntmps43;go_wp2_with fail
 go_loop [7] (fun u7=> ∃k:Nat,k≤n∧u7= .int .i64 k∧Hid (zbU 0 (l.take k)=true)) (fun u7=> n - (intOf u7).toNat)
 case atStart=> exact ⟨0,by omega,rfl,zh rfl⟩
 case round=>
  obtain ⟨k,hk,rfl,HK⟩:=hrel
  by_cases hlt:k < n
  ·obtain ⟨b,o,x,rfl,hx,GB⟩:=Is.cell HB.out k hlt;have DU:=zlA l k x hx;have BP:=zic (l.take k) 0 (by omega) HK.out
   rw [HK.out] at DU;have hid:=zj8 x w;obtain ⟨q,hq⟩:∃q,znF x=q:=⟨_,rfl⟩;rw [hq] at hid;have M5:=zh hid
   cases q
   ·have BH:zbU 0 (l.take (k+1))=false:=by
     rw [DU];unfold znF at hq
     by_cases h1:1≤x
     ·have h2:¬x≤65535:=by intro h2;simp [h1,h2] at hq
      simp [h2]
     ·have h2:¬(l.take k).getLast?.getD 0 < x:=by omega
      simp [h2]
    have Gf:r=false:=by rw [HR.out,zfT,zfB l (k+1) BH];rfl
    subst Gf;clear hx DU BH HK hid hq BP;go_wp2_with fail;refine M5.out.mono ?_;rintro e w1 ⟨rfl,rfl⟩;go_wp2_with fail;go_ret;exact ⟨rfl,rfl⟩
   ·have Up:1≤x∧x≤65535:=by
     unfold znF at hq
     simpa using hq
    cases k with
    | zero=>
      rw [Nat.add_zero] at GB;have BH:zbU 0 (l.take (0+1))=true:=by
       rw [DU];have:((l.take 0).getLast?.getD 0)=0:=rfl;rw [this];simp [Up.2];omega
      have HN:=zh BH;clear hx DU BH HK hid hq BP;go_wp2_with fail;refine M5.out.mono ?_;rintro e w1 ⟨rfl,rfl⟩;go_wp2_with fail;exact ⟨⟨1,by omega,by go_num,HN⟩,by simp [intOf];omega⟩
    | succ k=>
      obtain ⟨_,_,y,e1,hy,bV⟩:=Is.cell HB.out k (by omega)
      cases e1
      have KC:=zmK l k y hy;rw [KC] at DU;have BX:(0:Int) < ((k+1:Nat):Int):=by omega
      have BY:IntKind.i64.wrap (((k+1:Nat):Int) - 1)=(k:Int):=by rw [zw _ (by omega)];omega
      have kS:(0:Int)≤(k:Int):=by omega
      have G9:(k:Int) < (n:Int):=by omega
      by_cases qz:y < x
      ·have BH:zbU 0 (l.take (k+1+1))=true:=by rw [DU];simp [qz,Up.2]
       have HN:=zh BH;clear hx DU BH HK hid hq BP KC hy;go_wp2_with fail;refine M5.out.mono ?_;rintro e w1 ⟨rfl,rfl⟩;go_wp2_with fail;exact ⟨⟨k+1+1,by omega,by go_num,HN⟩,by simp [intOf];omega⟩
      ·have BH:zbU 0 (l.take (k+1+1))=false:=by rw [DU];simp [qz]
       have Gf:r=false:=by rw [HR.out,zfT,zfB l (k+1+1) BH];rfl
       subst Gf;clear hx DU BH HK hid hq BP KC hy;go_wp2_with fail;refine M5.out.mono ?_;rintro e w1 ⟨rfl,rfl⟩;go_wp2_with fail;go_ret;exact ⟨rfl,rfl⟩
  ·have G9:k=n:=by omega
   subst G9;have P6:r=(decide (1≤k) && decide (k≤8)):=by
        have:=HK.out;rw [zk (by rw [HL.out];omega)] at this
        rw [HR.out,zfT,this,HL.out];rfl
   clear HK
   by_cases h1:1≤k
   ·by_cases h2:k≤8
    ·have KZ:r=true:=by rw [P6];simp [h1,h2]
     subst KZ;clear P6;go_wp2_with fail;go_ret;exact ⟨by simp <;> omega,rfl⟩
    ·have KZ:r=false:=by rw [P6];simp [h2]
     subst KZ;clear P6;go_wp2_with fail;go_ret;exact ⟨by simp <;> omega,rfl⟩
   ·have KZ:r=false:=by rw [P6];simp [h1]
    subst KZ;clear P6;go_wp2_with fail;go_ret;exact ⟨by simp <;> omega,rfl⟩
theorem zje (k v i b n pt:Int) (da ma:Option Addr) (dn dc mn mc:Nat) (mem:List Int) (w:World) (hm:Is .i64 w ma mn mem) (QV:mn≤1000000000):
 Calls Tryz.prog 24 #[.agg #[.int .i64 k, .int .i64 v, .int .i64 i, .int .i64 b, .int .i64 n, .int .u64 pt, .slice da dn dc, .slice ma mn mc]] w fun e w'=> e= .returned (.bool (zeC k v i b n dn mem))∧Below w.heap.size w w':=by
 obtain ⟨w1,Ab⟩:∃w1,w1=w.alloc (.cells #[.int .i64 k, .int .i64 v, .int .i64 i, .int .i64 b, .int .i64 n, .int .u64 pt, .slice da dn dc, .slice ma mn mc] 28):=⟨_,rfl⟩;have hb:Below w.heap.size w w1:=by rw [Ab];exact zr.alloc zl _
 have hX:w1.heap[w.heap.size]? =some (.cells #[.int .i64 k, .int .i64 v, .int .i64 i, .int .i64 b, .int .i64 n, .int .u64 pt, .slice da dn dc, .slice ma mn mc] 28 (0,0)):=by rw [Ab];exact heap_alloc_new w _
 obtain ⟨x0,x1,x2,x3,x4,x5,x6,x7⟩:=rd8 (w:=w1) hX;have HM:=zh (zja ma mn mc mem w1 (Is.below hm hb zl) QV);have HB:=zh hb;clear hb hX hm QV
 by_cases hk:1≤k∧k≤19
 ·obtain ⟨y0,h0⟩:∃y,znF v=y:=⟨_,rfl⟩;obtain ⟨y1,h1⟩:∃y,znF i=y:=⟨_,rfl⟩;obtain ⟨y2,h2⟩:∃y,zfv b=y:=⟨_,rfl⟩;obtain ⟨y3,h3⟩:∃y,zfu n=y:=⟨_,rfl⟩;obtain ⟨y4,h4⟩:∃y,zfT mem=y:=⟨_,rfl⟩;rcases ztc k hk.1 hk.2 with rfl | rfl | rfl | rfl | rfl | rfl | rfl | rfl | rfl | rfl | rfl | rfl | rfl | rfl | rfl | rfl | rfl | rfl | rfl
  (cases y3)
  rotate_left 2
  (cases y0)
  rotate_left 2
  (cases y0 <;> cases y3)
  rotate_left 4
  (cases y0 <;> cases y2 <;> rcases (by omega:¬1≤dn∨(1≤dn∧dn≤64)∨(1≤dn∧¬dn≤64)) with d1 | ⟨d1,d2⟩ | ⟨d1,d2⟩)
  rotate_left 12
  (cases y0 <;> cases y2 <;> cases y3)
  rotate_left 8
  (cases y4)
  rotate_left 2
  (cases y1)
  rotate_left 2
  (cases y1)
  rotate_left 2
  (cases y1)
  rotate_left 2
  (cases y0)
  rotate_left 2
  (cases y0)
  rotate_left 2
  (cases y0 <;> cases y1)
  rotate_left 4
  (cases y0)
  rotate_left 2;rotate_left
  (cases y0 <;> cases y2)
  rotate_left 4
  (cases y0 <;> cases y2)
  rotate_left 4;rotate_left;rotate_left;rotate_left
  all_goals
   clear hk;go_enter Tryz.func24,Tryz.ntmps24;go_upto_region 1 with fail;rw [← Ab];clear Ab
   go_wp2_with (first | (go_at_call 40;with_reducible refine (zjb _ _).mono ?_;rintro e w' ⟨rfl,rfl⟩) | (go_at_call 41;with_reducible refine (zj8 _ _).mono ?_;rintro e w' ⟨rfl,rfl⟩) | (go_at_call 42;with_reducible refine (zjd _ _).mono ?_;rintro e w' ⟨rfl,rfl⟩) | (go_at_call 43;with_reducible refine HM.out.mono ?_;rintro e w' ⟨rfl,rfl⟩))
   go_ret;exact ⟨by first | (simp [zeC,zh1,zpW,zj7, *];done) | (simp [zeC,zh1,zpW,zj7, *];omega),HB.out⟩
 ·have hn:∀j:Int,1≤j→j≤19→(k==j)=false:=fun j a c=> by rw [beq_eq_false_iff_ne];omega
  have n1:=hn 1 (by decide) (by decide)
  have n2:=hn 2 (by decide) (by decide)
  have n3:=hn 3 (by decide) (by decide)
  have n4:=hn 4 (by decide) (by decide)
  have n5:=hn 5 (by decide) (by decide)
  have n6:=hn 6 (by decide) (by decide)
  have n7:=hn 7 (by decide) (by decide)
  have n8:=hn 8 (by decide) (by decide)
  have n9:=hn 9 (by decide) (by decide)
  have n10:=hn 10 (by decide) (by decide)
  have n11:=hn 11 (by decide) (by decide)
  have n12:=hn 12 (by decide) (by decide)
  have n13:=hn 13 (by decide) (by decide)
  have n14:=hn 14 (by decide) (by decide)
  have n15:=hn 15 (by decide) (by decide)
  have n16:=hn 16 (by decide) (by decide)
  have n17:=hn 17 (by decide) (by decide)
  have n18:=hn 18 (by decide) (by decide)
  have n19:=hn 19 (by decide) (by decide)
  have HR:=zh (show zeC k v i b n dn mem=false from by
   unfold zeC;rw [show (decide (1≤k) && decide (k≤19))=false from by
        rw [← Bool.decide_and];exact decide_eq_false hk]
   rfl)
  clear hk hn;go_enter Tryz.func24,Tryz.ntmps24;go_upto_region 1 with fail;rw [← Ab];clear Ab;go_wp2_with fail;go_ret;exact ⟨by rw [HR.out];rfl,HB.out⟩
end
end Go.Proofs.YtfldlfladcfggaaGreat
