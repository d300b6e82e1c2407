/- Lemmas of the walks, merged and pressed by press.py. Conditions: those of each theorem. -/
import Derived.Test.YtfldlfladcfggaaGreatM4
import Derived.Laws.Tables
import Derived.Deep.WholeRow
import Derived.Deep.RegionHeld3
set_option maxRecDepth 100000
set_option maxHeartbeats 64000000
set_option linter.all false
namespace Go.Proofs.YtfldlfladcfggaaGreat
section
open Go.RowKit
theorem zrq (a:Option Addr) (n cap:Nat) (l:List Int) (w:World) (h:Is .i64 w a n l) (hn:n≤1000000000):
 Calls Tryz.prog 75 #[.slice a n cap] w fun e w'=> e= .returned (.bool (zfT l))∧w=w':=by
 have HB:=zh h;have HL:=zh h.len;obtain ⟨r,hr⟩:∃r,r=zfT l:=⟨_,rfl⟩;rw [← hr];have HR:=zh hr;clear h hr;go_enter Tryz.func75,Tryz.ntmps75;go_wp2_with fail
 go_loop [3,4] (fun u3 u4=> ∃k:Nat,k≤n∧u4= .int .i64 k∧u3= .int .i64 ((l.take k).getLast?.getD 0)∧Hid (zbU 0 (l.take k)=true)) (fun _ u4=> n - (intOf u4).toNat)
 case atStart=> exact ⟨0,by omega,rfl,rfl,zh rfl⟩
 case round=>
  obtain ⟨k,hk,rfl,rfl,HK⟩:=hrel
  by_cases hlt:k < n
  ·obtain ⟨b,o,x,rfl,hx,GB⟩:=Is.cell HB.out k hlt;have DU:=zlA l k x hx;rw [HK.out] at DU;have KC:=zmK l k x hx;have UA:=zh KC;generalize (l.take k).getLast?.getD 0=last at *
   by_cases h1:last < x
   ·by_cases h2:x≤65535
    ·have BH:zbU 0 (l.take (k+1))=true:=by rw [DU];simp [h1,h2]
     have HN:=zh BH;clear hx DU KC BH HK;go_wp2_with fail;exact ⟨⟨k+1,by omega,by go_num,by rw [UA.out],HN⟩,by simp [intOf];omega⟩
    ·have BH:zbU 0 (l.take (k+1))=false:=by rw [DU];simp [h2]
     have Gf:r=false:=by rw [HR.out,zfT,zfB l (k+1) BH];rfl
     subst Gf;clear hx DU KC BH HK;go_wp2_with fail;go_ret;exact ⟨rfl,rfl⟩
   ·have BH:zbU 0 (l.take (k+1))=false:=by rw [DU];simp [h1]
    have Gf:r=false:=by rw [HR.out,zfT,zfB l (k+1) BH];rfl
    subst Gf;clear hx DU KC BH HK;go_wp2_with fail;go_ret;exact ⟨rfl,rfl⟩
  ·have G9:k=n:=by omega
   subst G9;have P6:r=(decide (1≤k) && decide (k≤8)):=by
        have:=HK.out;rw [zk (by rw [HL.out];omega)] at this
        rw [HR.out,zfT,this,HL.out];rfl
   generalize (l.take k).getLast?.getD 0=last at *;clear HK
   by_cases h1:1≤k
   ·by_cases h2:k≤8
    ·have KZ:r=true:=by rw [P6];simp [h1,h2]
     subst KZ;clear P6;go_wp2_with fail;go_ret;exact ⟨by simp;omega,rfl⟩
    ·have KZ:r=false:=by rw [P6];simp [h2]
     subst KZ;clear P6;go_wp2_with fail;go_ret;exact ⟨by simp;omega,rfl⟩
   ·have KZ:r=false:=by rw [P6];simp [h1]
    subst KZ;clear P6;go_wp2_with fail;go_ret;exact ⟨by simp,rfl⟩
def zri:Array Value:=#[.string ⟨#[]⟩, .string ⟨#[110]⟩, .string ⟨#[118]⟩, .string ⟨#[118,110]⟩, .string ⟨#[118,98,100]⟩, .string ⟨#[118,98,110]⟩, .string ⟨#[109]⟩, .string ⟨#[105]⟩, .string ⟨#[105]⟩, .string ⟨#[105]⟩, .string ⟨#[118,112]⟩, .string ⟨#[118,112]⟩, .string ⟨#[118,105]⟩, .string ⟨#[118,112]⟩, .string ⟨#[]⟩, .string ⟨#[118,98]⟩, .string ⟨#[118,98,112]⟩, .string ⟨#[]⟩, .string ⟨#[112]⟩, .string ⟨#[]⟩]
theorem zsj (N:Nat) (h1:1≤N) (h2:N≤19):zri[N]? =some (.string ⟨(zh1 N).toArray⟩):=by
 have:N=1∨N=2∨N=3∨N=4∨N=5∨N=6∨N=7∨N=8∨N=9∨N=10∨N=11∨N=12∨N=13∨N=14∨N=15∨N=16∨N=17∨N=18∨N=19:=by omega
 rcases this with rfl | rfl | rfl | rfl | rfl | rfl | rfl | rfl | rfl | rfl | rfl | rfl | rfl | rfl | rfl | rfl | rfl | rfl | rfl <;> rfl
theorem zrt:zri.all (·.oneCell')=true:=by kernel_rfl
theorem zrR (k:Int) (h:¬(1≤k∧k≤19)):zh1 k= []:=by
 unfold zh1
 repeat rw [if_neg (by omega)]
theorem zrk {ops:Array Oper} {rest:List Oper} {o:Oper} {a:Act} {w:World} {Q:Exit→Act→World→Prop} (hg:o.guard=none) (t:TypeId) (zbv:Array (Nat × Operand)) (ho:o.op= .build t zbv) (cells:Array Value)
 (hf:Tryz.prog.built t (zbv.map fun (i,x)=> (i,a.eval x)).toList=some cells)
 (h:wpList Tryz.prog ops Q rest (a.put o.dst (.agg cells)) w):wpList Tryz.prog ops Q (o::rest) a w:=
 wpList_build hg t zbv ho (by rw [hf];rfl) (by rw [hf];exact h)
theorem zs6:(Tryz.prog.info? 156).map (·.size)=some 20:=by kernel_rfl
theorem zry {ops:Array Oper} {rest:List Oper} {o:Oper} {a:Act} {w:World} {Q:Exit→Act→World→Prop} (hg:o.guard=none) (x y:Operand) (ho:o.op= .store 156 x y) (old cells:Array Value)
 (hx:a.eval x= .pointer (some ⟨w.heap.size,0,none⟩)) (hy:a.eval y= .agg cells) (hs:cells.size=20) (PX:old.size=20) (h1:cells.all (·.oneCell')=true)
 (h:wpList Tryz.prog ops Q rest (a.put o.dst undef) (w.alloc (.cells cells 156))):wpList Tryz.prog ops Q (o::rest) a (w.alloc (.cells old 156)):=
 wpList_store_row hg 156 x y ho w.heap.size cells hx hy 156 old (heap_alloc_last w _) (by rw [hs];exact zs6) (by rw [hs,PX]) h1 (by rw [World.setRow_alloc_new];exact h)
theorem zss (w:World) (V:Array Value) (N:Nat):(w.alloc (.cells V 156)).cell? ⟨w.heap.size,N,none⟩=V[N]? :=cell_of_row _ _ N V 156 (0,0) (heap_alloc_last w _)
theorem zsw (k:Int) (w:World):Calls Tryz.prog 36 #[.int .i64 k] w fun e w'=> e= .returned (.tuple #[.string ⟨(zh1 k).toArray⟩, .bool (decide (1≤k) && decide (k≤19))])∧Below w.heap.size w w':=by
 have hb:Below w.heap.size w (w.alloc (.cells zri 156)):=zr.alloc zl _
 by_cases hk:1≤k∧k≤19
 ·obtain ⟨h1,h2⟩:=hk;obtain ⟨N,rfl⟩:∃N:Nat,k=N:=⟨k.toNat,by omega⟩
  have hc:=(zss w zri N).trans (zsj N (by omega) (by omega))
  have RW:(0:Int)≤(N:Int):=by omega
  have RX:(N:Int) < 20:=by omega
  generalize zh1 (N:Int)=s at *;go_enter Tryz.func36,Tryz.ntmps36
  go_wp2_with (first
   | ((with_reducible show wpList _ _ _ ({dst:=_,op:=Op.build _ _,type:=_,pos:=_,after:=_,guard:=_}::_) _ _);refine zrk rfl 156 _ rfl zri (by kernel_rfl) ?_)
   | ((with_reducible show wpList _ _ _ ({dst:=_,op:=Op.store _ _ _,type:=_,pos:=_,after:=_,guard:=_}::_) _ _);refine zry rfl _ _ rfl _ zri rfl rfl rfl rfl zrt ?_))
  go_ret2;exact ⟨by first | rfl | simp [h1,h2],hb⟩
 ·rw [zrR k hk];have hd:(decide (1≤k) && decide (k≤19))=false:=by
   by_cases h1:1≤k
   ·have h2:¬k≤19:=fun h=> hk ⟨h1,h⟩;simp [h2]
   ·simp [h1]
  go_enter Tryz.func36,Tryz.ntmps36
  go_wp2_with (first
   | ((with_reducible show wpList _ _ _ ({dst:=_,op:=Op.build _ _,type:=_,pos:=_,after:=_,guard:=_}::_) _ _);refine zrk rfl 156 _ rfl zri (by kernel_rfl) ?_)
   | ((with_reducible show wpList _ _ _ ({dst:=_,op:=Op.store _ _ _,type:=_,pos:=_,after:=_,guard:=_}::_) _ _);refine zry rfl _ _ rfl _ zri rfl rfl rfl rfl zrt ?_))
  all_goals
   go_ret2;exact ⟨by first | rfl | (rw [hd];rfl),hb⟩
theorem zsk (k v i b n pt:Int) (da ma:Option Addr) (dn dc mn mc:Nat) (mem:List Int) (c:UInt8) (w:World) (hm:Is .i64 w ma mn mem) (QV:mn≤1000000000) (hc:c=118∨c=105∨c=98∨c=110∨c=112∨c=100∨c=109):
 Calls Tryz.prog 37 #[.agg #[.int .i64 k, .int .i64 v, .int .i64 i, .int .i64 b, .int .i64 n, .int .u64 pt, .slice da dn dc, .slice ma mn mc], .int .u8 (c.toNat:Int)] w fun e w'=> e= .returned (.bool (zpW v i b n dn mem c))∧Below w.heap.size w w':=by
 rcases hc with rfl | rfl | rfl | rfl | rfl | rfl | rfl
 ·clear hm
  show Calls Tryz.prog 37 _ w fun e w'=> e= .returned (.bool (znF v))∧Below w.heap.size w w'
  unfold znF
  by_cases h1:1≤v
  ·by_cases h2:v≤65535
   ·go_enter Tryz.func37,Tryz.ntmps37;go_wp2_with fail;go_ret;exact ⟨by simp <;> omega,zr.alloc zl _⟩
   ·go_enter Tryz.func37,Tryz.ntmps37;go_wp2_with fail;go_ret;exact ⟨by simp <;> omega,zr.alloc zl _⟩
  ·go_enter Tryz.func37,Tryz.ntmps37;go_wp2_with fail;go_ret;exact ⟨by simp <;> omega,zr.alloc zl _⟩
 ·clear hm
  show Calls Tryz.prog 37 _ w fun e w'=> e= .returned (.bool (znF i))∧Below w.heap.size w w'
  unfold znF
  by_cases h1:1≤i
  ·by_cases h2:i≤65535
   ·go_enter Tryz.func37,Tryz.ntmps37;go_wp2_with fail;go_ret;exact ⟨by simp <;> omega,zr.alloc zl _⟩
   ·go_enter Tryz.func37,Tryz.ntmps37;go_wp2_with fail;go_ret;exact ⟨by simp <;> omega,zr.alloc zl _⟩
  ·go_enter Tryz.func37,Tryz.ntmps37;go_wp2_with fail;go_ret;exact ⟨by simp <;> omega,zr.alloc zl _⟩
 ·clear hm
  show Calls Tryz.prog 37 _ w fun e w'=> e= .returned (.bool (zfv b))∧Below w.heap.size w w'
  unfold zfv
  by_cases h1:0≤b
  ·by_cases h2:b≤31
   ·go_enter Tryz.func37,Tryz.ntmps37;go_wp2_with fail;go_ret;exact ⟨by simp <;> omega,zr.alloc zl _⟩
   ·go_enter Tryz.func37,Tryz.ntmps37;go_wp2_with fail;go_ret;exact ⟨by simp <;> omega,zr.alloc zl _⟩
  ·go_enter Tryz.func37,Tryz.ntmps37;go_wp2_with fail;go_ret;exact ⟨by simp <;> omega,zr.alloc zl _⟩
 ·clear hm
  show Calls Tryz.prog 37 _ w fun e w'=> e= .returned (.bool (zfu n))∧Below w.heap.size w w'
  unfold zfu
  by_cases h1:1≤n
  ·by_cases h2:n≤32
   ·go_enter Tryz.func37,Tryz.ntmps37;go_wp2_with fail;go_ret;exact ⟨by simp <;> omega,zr.alloc zl _⟩
   ·go_enter Tryz.func37,Tryz.ntmps37;go_wp2_with fail;go_ret;exact ⟨by simp <;> omega,zr.alloc zl _⟩
  ·go_enter Tryz.func37,Tryz.ntmps37;go_wp2_with fail;go_ret;exact ⟨by simp <;> omega,zr.alloc zl _⟩
 ·clear hm
  show Calls Tryz.prog 37 _ w fun e w'=> e= .returned (.bool true)∧Below w.heap.size w w'
  go_enter Tryz.func37,Tryz.ntmps37;go_wp2_with fail;go_ret;exact ⟨rfl,zr.alloc zl _⟩
 ·clear hm
  show Calls Tryz.prog 37 _ w fun e w'=> e= .returned (.bool (zj7 dn))∧Below w.heap.size w w'
  unfold zj7
  by_cases h1:1≤dn
  ·by_cases h2:dn≤64
   ·go_enter Tryz.func37,Tryz.ntmps37;go_wp2_with fail;go_ret;exact ⟨by simp [*] <;> omega,zr.alloc zl _⟩
   ·go_enter Tryz.func37,Tryz.ntmps37;go_wp2_with fail;go_ret;exact ⟨by simp [*] <;> omega,zr.alloc zl _⟩
  ·go_enter Tryz.func37,Tryz.ntmps37;go_wp2_with fail;go_ret;exact ⟨by simp [*] <;> omega,zr.alloc zl _⟩
 ·show Calls Tryz.prog 37 _ w fun e w'=> e= .returned (.bool (zfT mem))∧Below w.heap.size w w'
  have hb:Below w.heap.size w (w.alloc (.cells #[.int .i64 k, .int .i64 v, .int .i64 i, .int .i64 b, .int .i64 n, .int .u64 pt, .slice da dn dc, .slice ma mn mc] 28)):=zr.alloc zl _;have Tw:=zrq ma mn mc mem _ (Is.below hm hb zl) QV;have HM:=zh Tw;clear Tw hm;go_enter Tryz.func37,Tryz.ntmps37;go_wp2_with fail;refine HM.out.mono ?_;rintro e w1 ⟨rfl,rfl⟩;go_wp2_with fail;go_ret;exact ⟨rfl,hb⟩
theorem zrQ (k:Int):((zh1 k).all fun c=> c==118 || c==105 || c==98 || c==110 || c==112 || c==100 || c==109)=true∧(zh1 k).length≤3:=by
 by_cases hk:1≤k∧k≤19
 ·rcases ztc k hk.1 hk.2 with rfl | rfl | rfl | rfl | rfl | rfl | rfl | rfl | rfl | rfl | rfl | rfl | rfl | rfl | rfl | rfl | rfl | rfl | rfl <;> decide
 ·rw [zrR k hk];decide
theorem zrD (k:Int) (c:UInt8) (h:c ∈ zh1 k):c=118∨c=105∨c=98∨c=110∨c=112∨c=100∨c=109:=by
 have:=List.all_eq_true.1 (zrQ k).1 c h;simp only [Bool.or_eq_true,beq_iff_eq] at this;rcases this with (((((h | h) | h) | h) | h) | h) | h <;> simp [h]
theorem zrE (k v i b n pt:Int) (da ma:Option Addr) (dn dc mn mc:Nat) (mem:List Int) (w:World) (hm:Is .i64 w ma mn mem) (QV:mn≤1000000000):
 Calls Tryz.prog 15 #[.agg #[.int .i64 k, .int .i64 v, .int .i64 i, .int .i64 b, .int .i64 n, .int .u64 pt, .slice da dn dc, .slice ma mn mc]] w fun e w'=> e= .returned (.bool (zeC k v i b n dn mem))∧Below w.heap.size w w':=by
 have hb:Below w.heap.size w (w.alloc (.cells #[.int .i64 k, .int .i64 v, .int .i64 i, .int .i64 b, .int .i64 n, .int .u64 pt, .slice da dn dc, .slice ma mn mc] 28)):=zr.alloc zl _;have Di:=zrD k;have fe:=(zrQ k).2;have c0:(w.alloc (.cells #[.int .i64 k, .int .i64 v, .int .i64 i, .int .i64 b, .int .i64 n, .int .u64 pt, .slice da dn dc, .slice ma mn mc] 28)).cell? ⟨w.heap.size,0,none⟩=some (.int .i64 k):=by simp
 have c1:(w.alloc (.cells #[.int .i64 k, .int .i64 v, .int .i64 i, .int .i64 b, .int .i64 n, .int .u64 pt, .slice da dn dc, .slice ma mn mc] 28)).cell? ⟨w.heap.size,1,none⟩=some (.int .i64 v):=by simp
 have c2:(w.alloc (.cells #[.int .i64 k, .int .i64 v, .int .i64 i, .int .i64 b, .int .i64 n, .int .u64 pt, .slice da dn dc, .slice ma mn mc] 28)).cell? ⟨w.heap.size,2,none⟩=some (.int .i64 i):=by simp
 have c3:(w.alloc (.cells #[.int .i64 k, .int .i64 v, .int .i64 i, .int .i64 b, .int .i64 n, .int .u64 pt, .slice da dn dc, .slice ma mn mc] 28)).cell? ⟨w.heap.size,3,none⟩=some (.int .i64 b):=by simp
 have c4:(w.alloc (.cells #[.int .i64 k, .int .i64 v, .int .i64 i, .int .i64 b, .int .i64 n, .int .u64 pt, .slice da dn dc, .slice ma mn mc] 28)).cell? ⟨w.heap.size,4,none⟩=some (.int .i64 n):=by simp
 have c5:(w.alloc (.cells #[.int .i64 k, .int .i64 v, .int .i64 i, .int .i64 b, .int .i64 n, .int .u64 pt, .slice da dn dc, .slice ma mn mc] 28)).cell? ⟨w.heap.size,5,none⟩=some (.int .u64 pt):=by simp
 have c6:(w.alloc (.cells #[.int .i64 k, .int .i64 v, .int .i64 i, .int .i64 b, .int .i64 n, .int .u64 pt, .slice da dn dc, .slice ma mn mc] 28)).cell? ⟨w.heap.size,6,none⟩=some (.slice da dn dc):=by simp
 have c7:(w.alloc (.cells #[.int .i64 k, .int .i64 v, .int .i64 i, .int .i64 b, .int .i64 n, .int .u64 pt, .slice da dn dc, .slice ma mn mc] 28)).cell? ⟨w.heap.size,7,none⟩=some (.slice ma mn mc):=by simp
 have hlt:w.heap.size < (w.alloc (.cells #[.int .i64 k, .int .i64 v, .int .i64 i, .int .i64 b, .int .i64 n, .int .u64 pt, .slice da dn dc, .slice ma mn mc] 28)).heap.size:=by simp
 have HM:=zh hm;have KH:=zsw k (w.alloc (.cells #[.int .i64 k, .int .i64 v, .int .i64 i, .int .i64 b, .int .i64 n, .int .u64 pt, .slice da dn dc, .slice ma mn mc] 28));have hR:zeC k v i b n dn mem=((decide (1≤k) && decide (k≤19)) && (zh1 k).all (zpW v i b n dn mem)):=rfl;obtain ⟨r,hr⟩:∃r,r=zeC k v i b n dn mem:=⟨_,rfl⟩;rw [← hr] at hR ⊢;generalize (decide (1≤k) && decide (k≤19))=q at *;generalize zh1 k=L at *;have HR:=zh hR;have qb:=zh Di;have eG:=zh KH;clear hm hR hr Di KH;go_enter Tryz.func15,Tryz.ntmps15;go_wp2_with fail;generalize w.alloc (.cells #[.int .i64 k, .int .i64 v, .int .i64 i, .int .i64 b, .int .i64 n, .int .u64 pt, .slice da dn dc, .slice ma mn mc] 28)=w1 at *;refine eG.out.mono ?_;rintro e w2 ⟨rfl,Ae⟩;go_wp2_with fail
 go_loopw [4,5] (fun u4 u5 wr=> ∃j:Nat,j≤L.length∧u5= .int .i64 j∧u4= .bool (q && (L.take j).all (zpW v i b n dn mem))∧Below w1.heap.size w1 wr) (fun _ u5 _=> L.length - (intOf u5).toNat)
 case atStart=> exact ⟨0,by omega,rfl,by simp,Ae⟩
 case round=>
  obtain ⟨j,hj,rfl,rfl,FO⟩:=hrel
  by_cases Sx:j < L.length
  ·obtain ⟨c,hc⟩:∃c,L[j]? =some c:=⟨_,ze Sx⟩;have Ay:∀h:j < (⟨L.toArray⟩:ByteArray).size,(⟨L.toArray⟩:ByteArray)[j]'(h)=c:=fun h=> by
        have e:(⟨L.toArray⟩:ByteArray)[j]'(h)=L[j]'(Sx):=rfl;rw [e];rw [ze Sx] at hc;exact Option.some.inj hc
   have DU:(q && (L.take (j+1)).all (zpW v i b n dn mem))=((q && (L.take j).all (zpW v i b n dn mem)) && zpW v i b n dn mem c):=by
        rw [List.take_add_one,hc,List.all_append,Bool.and_assoc];simp
   have Rr:=zh DU;have Di:=qb.out c (zm hc);generalize (q && (L.take j).all (zpW v i b n dn mem))=ok at *;have d0:wr.cell? ⟨w.heap.size,0,none⟩=some (.int .i64 k):=by rw [FO.cell hlt];exact c0
   have d1:wr.cell? ⟨w.heap.size,1,none⟩=some (.int .i64 v):=by rw [FO.cell hlt];exact c1
   have d2:wr.cell? ⟨w.heap.size,2,none⟩=some (.int .i64 i):=by rw [FO.cell hlt];exact c2
   have d3:wr.cell? ⟨w.heap.size,3,none⟩=some (.int .i64 b):=by rw [FO.cell hlt];exact c3
   have d4:wr.cell? ⟨w.heap.size,4,none⟩=some (.int .i64 n):=by rw [FO.cell hlt];exact c4
   have d5:wr.cell? ⟨w.heap.size,5,none⟩=some (.int .u64 pt):=by rw [FO.cell hlt];exact c5
   have d6:wr.cell? ⟨w.heap.size,6,none⟩=some (.slice da dn dc):=by rw [FO.cell hlt];exact c6
   have d7:wr.cell? ⟨w.heap.size,7,none⟩=some (.slice ma mn mc):=by rw [FO.cell hlt];exact c7
   have em:Is .i64 wr.drew ma mn mem:=Is.below HM.out (hb.trans (FO.mono hb.size)).drew zl;have MA:(0:Int)≤(j:Int):=by omega
   have EB:(j:Int) < (L.length:Int):=by omega
   have Tv:=zsk k v i b n pt da ma dn dc mn mc mem c wr.drew em QV Di;have qc:=zh Tv;clear Tv em Di DU
   cases ok
   ·go_wp2_with fail
    go_quiet (fail)
    all_goals
     have DF:=fun nq=> below_drewN FO nq;go_wp2_with fail;exact ⟨⟨j+1,by omega,by go_num,by rw [Rr.out];simp,DF _⟩,by simp [intOf];omega⟩
   ·go_wp2_with fail
    first
     | (go_region_held3 (fun w'=> w'.cell? ⟨w.heap.size,0,none⟩=some (.int .i64 k)∧w'.cell? ⟨w.heap.size,1,none⟩=some (.int .i64 v)∧w'.cell? ⟨w.heap.size,2,none⟩=some (.int .i64 i)∧w'.cell? ⟨w.heap.size,3,none⟩=some (.int .i64 b)∧w'.cell? ⟨w.heap.size,4,none⟩=some (.int .i64 n)∧w'.cell? ⟨w.heap.size,5,none⟩=some (.int .u64 pt)∧w'.cell? ⟨w.heap.size,6,none⟩=some (.slice da dn dc)∧w'.cell? ⟨w.heap.size,7,none⟩=some (.slice ma mn mc))
         (first | exact hHeld | exact Bm | go_keep)
         (first
          | (refine zsJ (o:=⟨some 24,_,_,_,_,_⟩) (by kernel_rfl) 37 Tryz.func37 (by kernel_rfl) rfl _ _ rfl #[.agg #[.int .i64 k, .int .i64 v, .int .i64 i, .int .i64 b, .int .i64 n, .int .u64 pt, .slice da dn dc, .slice ma mn mc], .int .u8 (c.toNat:Int)] (by simp [Act.eval]) qc.out ?_
             rintro e w3 ⟨rfl,Am⟩;refine ⟨_,rfl, ?_⟩;have Ar:Below w1.heap.size w1 w3:=FO.trans (((Below.refl wr.heap.size wr).drew.trans Am).mono FO.size);have Bm:w3.cell? ⟨w.heap.size,0,none⟩=some (.int .i64 k)∧w3.cell? ⟨w.heap.size,1,none⟩=some (.int .i64 v)∧w3.cell? ⟨w.heap.size,2,none⟩=some (.int .i64 i)∧w3.cell? ⟨w.heap.size,3,none⟩=some (.int .i64 b)∧w3.cell? ⟨w.heap.size,4,none⟩=some (.int .i64 n)∧w3.cell? ⟨w.heap.size,5,none⟩=some (.int .u64 pt)∧w3.cell? ⟨w.heap.size,6,none⟩=some (.slice da dn dc)∧w3.cell? ⟨w.heap.size,7,none⟩=some (.slice ma mn mc):=⟨by rw [Ar.cell hlt];exact c0,by rw [Ar.cell hlt];exact c1,by rw [Ar.cell hlt];exact c2,by rw [Ar.cell hlt];exact c3,by rw [Ar.cell hlt];exact c4,by rw [Ar.cell hlt];exact c5,by rw [Ar.cell hlt];exact c6,by rw [Ar.cell hlt];exact c7⟩)))
     | fail "no region"
    all_goals
     go_wp2_with fail;exact ⟨⟨j+1,by omega,by go_num,by rw [Rr.out,Bool.true_and],Ar⟩,by simp [intOf];omega⟩
  ·have yY:j=L.length:=by omega
   subst yY;rw [List.take_length];rw [← HR.out];go_wp2_with fail;go_ret;exact ⟨rfl,hb.trans (FO.mono hb.size)⟩
def zrb (k v i b n:Int) (dn:Nat) (m:List Int):Bool:=(k==4 || k==5) && zeC k v i b n dn m
def zs2 (k v b n vol block:Int):Bool:=v==vol && (decide (b≤block) && decide (block < wrap64 (b+if k=5 then n else 1)))
theorem zr2 (k v i b n pt:Int) (da ma:Option Addr) (dn dc mn mc:Nat) (mem:List Int) (w:World) (hm:Is .i64 w ma mn mem) (QV:mn≤1000000000):
 Calls Tryz.prog 5 #[.agg #[.int .i64 k, .int .i64 v, .int .i64 i, .int .i64 b, .int .i64 n, .int .u64 pt, .slice da dn dc, .slice ma mn mc]] w fun e w'=> e= .returned (.bool (zrb k v i b n dn mem))∧Below w.heap.size w w':=by
 have hb:Below w.heap.size w (w.alloc (.cells #[.int .i64 k, .int .i64 v, .int .i64 i, .int .i64 b, .int .i64 n, .int .u64 pt, .slice da dn dc, .slice ma mn mc] 28)):=zr.alloc zl _;have hr:=zrE k v i b n pt da ma dn dc mn mc mem _ (hm.below hb zl) QV;have HR:=zh hr;clear hr hm;unfold zrb;generalize zeC k v i b n dn mem=r at *
 by_cases h4:k=4
 ·subst h4;go_enter Tryz.func5,Tryz.ntmps5;go_wp2_with fail;refine HR.out.mono ?_;rintro e w2 ⟨rfl,Ae⟩;go_wp2_with fail;go_ret;exact ⟨by simp,hb.trans (Ae.mono hb.size)⟩
 ·by_cases h5:k=5
  ·subst h5;go_enter Tryz.func5,Tryz.ntmps5;go_wp2_with fail;refine HR.out.mono ?_;rintro e w2 ⟨rfl,Ae⟩;go_wp2_with fail;go_ret;exact ⟨by simp,hb.trans (Ae.mono hb.size)⟩
  ·have e4:(k==4)=false:=by rw [beq_eq_false_iff_ne];exact h4
   have e5:(k==5)=false:=by rw [beq_eq_false_iff_ne];exact h5
   clear HR;go_enter Tryz.func5,Tryz.ntmps5;go_wp2_with fail;go_ret;exact ⟨by simp [e4,e5],hb⟩
theorem zrp (k v i b n pt:Int) (da ma:Option Addr) (dn dc mn mc:Nat) (mem:List Int) (w:World) (hm:Is .i64 w ma mn mem) (QV:mn≤1000000000):
 Calls Tryz.prog 17 #[.agg #[.int .i64 k, .int .i64 v, .int .i64 i, .int .i64 b, .int .i64 n, .int .u64 pt, .slice da dn dc, .slice ma mn mc]] w fun e w'=> e= .returned (.bool (zrb k v i b n dn mem))∧Below w.heap.size w w':=by
 have hb:Below w.heap.size w (w.alloc (.cells #[.int .i64 k, .int .i64 v, .int .i64 i, .int .i64 b, .int .i64 n, .int .u64 pt, .slice da dn dc, .slice ma mn mc] 28)):=zr.alloc zl _;have hr:=zje k v i b n pt da ma dn dc mn mc mem _ (hm.below hb zl) QV;have hC:=zq4.new w k v i b n pt (.slice da dn dc) (.slice ma mn mc);have hlt:w.heap.size < (w.alloc (.cells #[.int .i64 k, .int .i64 v, .int .i64 i, .int .i64 b, .int .i64 n, .int .u64 pt, .slice da dn dc, .slice ma mn mc] 28)).heap.size:=by simp
 have HR:=zh hr;have HC:=zh hC;clear hr hm hC;unfold zrb;generalize zeC k v i b n dn mem=r at *;have e4:k=4∨(k==4)=false:=by by_cases h:k=4 <;> simp [h]
 have e5:k=5∨(k==5)=false:=by by_cases h:k=5 <;> simp [h]
 cases r <;> rcases e4 with rfl | e4 <;> (try rcases e5 with h | e5)
 all_goals first
  | (exfalso;omega)
  | (try subst h
     go_enter Tryz.func17,Tryz.ntmps17;go_wp2_with fail;refine HR.out.mono ?_;rintro e w2 ⟨rfl,Ae⟩;obtain ⟨c0,-⟩:=HC.out.below Ae hlt;go_wp2_with fail;go_ret;exact ⟨by simp [*],hb.trans (Ae.mono hb.size)⟩)
def PO.plain56 (o:PO):Bool:=zrb o.k o.v o.i o.b o.n o.d.length o.m
def PO.touch (o:PO) (vol block:Int):Bool:=zs2 o.k o.v o.b o.n vol block
def zrl (vol block:Int):List PO→Bool
 | []=> false
 | o::t=> o.plain56 && (o.touch vol block || zrl vol block t)
end
end Go.Proofs.YtfldlfladcfggaaGreat
