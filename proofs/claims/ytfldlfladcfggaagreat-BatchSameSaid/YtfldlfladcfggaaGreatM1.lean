/- Lemmas of the walks, merged and pressed by press.py. Conditions: those of each theorem. -/
import Derived.Test.YtfldlfladcfggaaGreatProg
import Derived.WalkKit
import Derived.WalkSpells
import Derived.WalkLawsBesides
import Derived.Laws.BitsAllLaws
import Derived.BigQuiet
import Derived.Deep.QuietTactic
import Derived.Lib.Hide
import Derived.Laws.IdiomStrings
import Derived.Lib.Small
import Derived.Deep.RegionHeld
set_option maxRecDepth 100000
set_option maxHeartbeats 64000000
set_option linter.all false
namespace Go.Proofs.YtfldlfladcfggaaGreat
section
open Go.RowKit
def Sl (w:World) (a:Option Addr) (n:Nat) (xs:List Value):Prop:=
 xs.length=n∧∀i x,xs[i]? =some x→∃b o,a=some ⟨b,o,none⟩∧w.cell? ⟨b,o+i,none⟩=some x
theorem Sl.below {B:Nat} {w w':World} {a:Option Addr} {n:Nat} {xs:List Value} (h:Sl w a n xs) (hb:Below B w w') (hB:w.heap.size≤B):Sl w' a n xs:=by
 refine ⟨h.1,fun i x hx=> ?_⟩;obtain ⟨b,o,ha,hc⟩:=h.2 i x hx;refine ⟨b,o,ha, ?_⟩;have hlt:=World.block_lt_of_cell? w _ hc;rw [hb.cell (p:=⟨b,o+i,none⟩) (by simp at hlt ⊢;omega)]
 exact hc
def Is (k:IntKind) (w:World) (a:Option Addr) (n:Nat) (zs:List Int):Prop:=Sl w a n (zs.map (.int k))
theorem Is.below {B:Nat} {k:IntKind} {w w':World} {a:Option Addr} {n:Nat} {zs:List Int} (h:Is k w a n zs) (hb:Below B w w') (hB:w.heap.size≤B):Is k w' a n zs:=
 Sl.below h hb hB
theorem Is.len {k:IntKind} {w:World} {a:Option Addr} {n:Nat} {zs:List Int} (h:Is k w a n zs):zs.length=n:=by
 have:=h.1;simpa using this
theorem Is.at {k:IntKind} {w:World} {a:Option Addr} {n:Nat} {zs:List Int} (h:Is k w a n zs) (hn:0 < n):
 ∃b o,a=some ⟨b,o,none⟩∧∀i,i < n→w.cell? ⟨b,o+i,none⟩=some (.int k (zs.getD i 0)):=by
 have hl:=h.len;obtain ⟨b,o,ha,_⟩:=h.2 0 _ (by rw [List.getElem?_map,List.getElem?_eq_getElem (by omega)];rfl)
 refine ⟨b,o,ha,fun i hi=> ?_⟩;obtain ⟨b',o',Ns,hc⟩:=h.2 i _ (by rw [List.getElem?_map,List.getElem?_eq_getElem (by omega)];rfl)
 rw [ha] at Ns;simp only [Option.some.injEq,Addr.mk.injEq,and_true] at Ns;obtain ⟨rfl,rfl⟩:=Ns;rw [hc,List.getD_eq_getElem?_getD,List.getElem?_eq_getElem (by omega)]
 rfl
theorem Is.mk' {k:IntKind} {w:World} {b o n:Nat} {zs:List Int} (hl:zs.length=n) (h:∀i,i < n→w.cell? ⟨b,o+i,none⟩=some (.int k (zs.getD i 0))):
 Is k w (some ⟨b,o,none⟩) n zs:=by
 refine ⟨by simpa using hl,fun i x hx=> ⟨b,o,rfl, ?_⟩⟩
 rw [List.getElem?_map] at hx;have hi:i < zs.length:=by
  rcases Nat.lt_or_ge i zs.length with hi | hi
  ·exact hi
  ·rw [List.getElem?_eq_none hi] at hx;cases hx
 rw [h i (by omega),List.getD_eq_getElem?_getD]
 rw [List.getElem?_eq_getElem hi] at hx ⊢
 simpa using hx
theorem zhB (w:World) (news:List Value) (e:TypeId):∀j u,news[j]? =some u→(w.alloc (.cells news.toArray e)).cell? ((⟨w.heap.size,0,none⟩:Addr).add j)=some u:=by
 intro j u hu;have Mg:(⟨w.heap.size,0,none⟩:Addr).add j=⟨w.heap.size,j,none⟩:=by unfold Addr.add;split <;> simp_all
 rw [Mg,World.cell?_alloc_mark]
 simpa using hu
theorem zca {w w':World} {o:Obj} {row:Option Nat} (h:(w.alloc o).grownBy w' row):w.grownBy w' row:=
 ⟨h.os,h.tape,h.output,Nat.le_trans (by simp) h.size,fun k hk Aj=> (h.block k (by simp;omega) Aj).trans (Below.heap_alloc w o _ hk)⟩
theorem zlX {P:Program} {w:World} {base:Nat} {t e:TypeId} {i:TypeInfo} {z:Value} {size bytes:Nat} (ht:P.underlying t=some (.slice e)) (hi:P.info? e=some i) (hz:i.zero=some z)
 (T6:i.size=size) (FP:i.bytes=bytes) (bx:z.cells.size=size) (AR:0 < size) {v:Value} {n:Nat} {xs:List Value} (Af:w.ownsRow base e size v n xs)
 (m:Nat) (news:List Value) (hl:news.length=m * size) (h1:∀u ∈ news,u.oneCell'=true) (Z7:n+m≤maxLen) (hbytes:(n+m) * bytes≤140737488355328) (Cx:base≤w.heap.size):
 ∃v' w',(Builtin.append_ #[t,t] t #[v, .slice (some ⟨w.heap.size,0,none⟩) m m]).run P (w.alloc (.cells news.toArray e))= .ok v' w'∧w'.ownsRow base e size v' (n+m) (xs++news)∧w.grownBy w' v.ownBlock∧(0 < m→v'≠ .slice none 0 0):=by
 obtain ⟨v',w',hr,h2,h3,h4⟩:=run_append_own (P:=P) (w.alloc (.cells news.toArray e)) base t t e i z size bytes ht hi hz T6 FP bx AR v n xs (Af.alloc _) ⟨w.heap.size,0,none⟩ m m news hl (zhB w news e) h1 Z7 hbytes (by simp;omega)
 exact ⟨v',w',hr,h2,zca h3,fun hm hv=> by have:=(h4.1 hv).2;omega⟩
theorem Below.own {B:Nat} {w0 w w':World} {base:Nat} {e:TypeId} {size:Nat} {v:Value} {n:Nat} {xs:List Value} (h:Below B w0 w) (Af:w.ownsRow base e size v n xs) (hg:w.grownBy w' v.ownBlock) (hB:B≤base) (hw:B≤w.heap.size):Below B w0 w':=
 h.grown hg hw fun k hk=> by have:=(Af.lt k hk).1;omega
theorem zjs {k:IntKind} {a b:Int} (h:a=b):Ending.returned (.int k a)= .returned (.int k b):=by rw [h]
def blF:Nat→Nat→Nat
 | 0,_=> 0
 | f+1,n=> if n=0 then 0 else blF f (n / 2)+1
def bl (n:Nat):Nat:=blF n n
theorem rd3 {w:World} {b:Nat} {v0 v1 v2:Value} {r:List Value} {t:TypeId} (h:w.heap[b]? =some (.cells ⟨v0::v1::v2::r⟩ t (0,0))):w.cell? ⟨b,0,none⟩=some v0∧w.cell? ⟨b,1,none⟩=some v1∧w.cell? ⟨b,2,none⟩=some v2:=by
  refine ⟨?_, ?_, ?_⟩ <;> (rw [cell_of_row w b _ _ _ _ h];rfl)
theorem rd4 {w:World} {b:Nat} {v0 v1 v2 v3:Value} {r:List Value} {t:TypeId} (h:w.heap[b]? =some (.cells ⟨v0::v1::v2::v3::r⟩ t (0,0))):w.cell? ⟨b,0,none⟩=some v0∧w.cell? ⟨b,1,none⟩=some v1∧w.cell? ⟨b,2,none⟩=some v2∧w.cell? ⟨b,3,none⟩=some v3:=by
  refine ⟨?_, ?_, ?_, ?_⟩ <;> (rw [cell_of_row w b _ _ _ _ h];rfl)
theorem rd5 {w:World} {b:Nat} {v0 v1 v2 v3 v4:Value} {r:List Value} {t:TypeId} (h:w.heap[b]? =some (.cells ⟨v0::v1::v2::v3::v4::r⟩ t (0,0))):w.cell? ⟨b,0,none⟩=some v0∧w.cell? ⟨b,1,none⟩=some v1∧w.cell? ⟨b,2,none⟩=some v2∧w.cell? ⟨b,3,none⟩=some v3∧w.cell? ⟨b,4,none⟩=some v4:=by
  refine ⟨?_, ?_, ?_, ?_, ?_⟩ <;> (rw [cell_of_row w b _ _ _ _ h];rfl)
theorem rd6 {w:World} {b:Nat} {v0 v1 v2 v3 v4 v5:Value} {r:List Value} {t:TypeId} (h:w.heap[b]? =some (.cells ⟨v0::v1::v2::v3::v4::v5::r⟩ t (0,0))):w.cell? ⟨b,0,none⟩=some v0∧w.cell? ⟨b,1,none⟩=some v1∧w.cell? ⟨b,2,none⟩=some v2∧w.cell? ⟨b,3,none⟩=some v3∧w.cell? ⟨b,4,none⟩=some v4∧w.cell? ⟨b,5,none⟩=some v5:=by
  refine ⟨?_, ?_, ?_, ?_, ?_, ?_⟩ <;> (rw [cell_of_row w b _ _ _ _ h];rfl)
theorem rd7 {w:World} {b:Nat} {v0 v1 v2 v3 v4 v5 v6:Value} {r:List Value} {t:TypeId} (h:w.heap[b]? =some (.cells ⟨v0::v1::v2::v3::v4::v5::v6::r⟩ t (0,0))):w.cell? ⟨b,0,none⟩=some v0∧w.cell? ⟨b,1,none⟩=some v1∧w.cell? ⟨b,2,none⟩=some v2∧w.cell? ⟨b,3,none⟩=some v3∧w.cell? ⟨b,4,none⟩=some v4∧w.cell? ⟨b,5,none⟩=some v5∧w.cell? ⟨b,6,none⟩=some v6:=by
  refine ⟨?_, ?_, ?_, ?_, ?_, ?_, ?_⟩ <;> (rw [cell_of_row w b _ _ _ _ h];rfl)
theorem rd8 {w:World} {b:Nat} {v0 v1 v2 v3 v4 v5 v6 v7:Value} {r:List Value} {t:TypeId} (h:w.heap[b]? =some (.cells ⟨v0::v1::v2::v3::v4::v5::v6::v7::r⟩ t (0,0))):w.cell? ⟨b,0,none⟩=some v0∧w.cell? ⟨b,1,none⟩=some v1∧w.cell? ⟨b,2,none⟩=some v2∧w.cell? ⟨b,3,none⟩=some v3∧w.cell? ⟨b,4,none⟩=some v4∧w.cell? ⟨b,5,none⟩=some v5∧w.cell? ⟨b,6,none⟩=some v6∧w.cell? ⟨b,7,none⟩=some v7:=by
  refine ⟨?_, ?_, ?_, ?_, ?_, ?_, ?_, ?_⟩ <;> (rw [cell_of_row w b _ _ _ _ h];rfl)
theorem rd9 {w:World} {b:Nat} {v0 v1 v2 v3 v4 v5 v6 v7 v8:Value} {r:List Value} {t:TypeId} (h:w.heap[b]? =some (.cells ⟨v0::v1::v2::v3::v4::v5::v6::v7::v8::r⟩ t (0,0))):w.cell? ⟨b,0,none⟩=some v0∧w.cell? ⟨b,1,none⟩=some v1∧w.cell? ⟨b,2,none⟩=some v2∧w.cell? ⟨b,3,none⟩=some v3∧w.cell? ⟨b,4,none⟩=some v4∧w.cell? ⟨b,5,none⟩=some v5∧w.cell? ⟨b,6,none⟩=some v6∧w.cell? ⟨b,7,none⟩=some v7∧w.cell? ⟨b,8,none⟩=some v8:=by
  refine ⟨?_, ?_, ?_, ?_, ?_, ?_, ?_, ?_, ?_⟩ <;> (rw [cell_of_row w b _ _ _ _ h];rfl)
theorem rd10 {w:World} {b:Nat} {v0 v1 v2 v3 v4 v5 v6 v7 v8 v9:Value} {r:List Value} {t:TypeId} (h:w.heap[b]? =some (.cells ⟨v0::v1::v2::v3::v4::v5::v6::v7::v8::v9::r⟩ t (0,0))):w.cell? ⟨b,0,none⟩=some v0∧w.cell? ⟨b,1,none⟩=some v1∧w.cell? ⟨b,2,none⟩=some v2∧w.cell? ⟨b,3,none⟩=some v3∧w.cell? ⟨b,4,none⟩=some v4∧w.cell? ⟨b,5,none⟩=some v5∧w.cell? ⟨b,6,none⟩=some v6∧w.cell? ⟨b,7,none⟩=some v7∧w.cell? ⟨b,8,none⟩=some v8∧w.cell? ⟨b,9,none⟩=some v9:=by
  refine ⟨?_, ?_, ?_, ?_, ?_, ?_, ?_, ?_, ?_, ?_⟩ <;> (rw [cell_of_row w b _ _ _ _ h];rfl)
theorem zr {n:Nat} {w:World}:Below n w w:=Below.refl n w
theorem zl {n:Nat}:n≤n:=Nat.le_refl n
theorem zh {p:Prop} (h:p):Go.RowKit.Hid p:=h
theorem zn {a b:Prop} (x:a) (y:b):a∧b:=⟨x,y⟩
theorem zg {α:Type _} {xs:Array α} {i:Nat} {b:α} (h:xs[i]? =some b):∃h:i < xs.size,xs[i]=b:=Array.getElem?_eq_some_iff.1 h
theorem zi {α:Type _} {xs:List α} {i:Nat} {b:α} (h:xs[i]? =some b):∃h:i < xs.length,xs[i]=b:=List.getElem?_eq_some_iff.1 h
theorem ze {α:Type _} {xs:List α} {i:Nat} (h:i < xs.length):xs[i]? =some xs[i]:=List.getElem?_eq_getElem h
theorem zm {α:Type _} {xs:List α} {i:Nat} {b:α} (h:xs[i]? =some b):b ∈ xs:=List.mem_of_getElem? h
theorem zt {a b c:Nat} (h:a < b) (k:b≤c):a < c:=Nat.lt_of_lt_of_le h k
theorem zs {a b c:Nat} (h:a≤b) (k:b≤c):a≤c:=Nat.le_trans h k
def zb:=@World.block_lt_of_cell?
def zk:=@List.take_of_length_le
def zw:=@IntWalk.i64_in
end
section
def znF (n:Int):Bool:=decide (1≤n) && decide (n≤65535)
def zfv (n:Int):Bool:=decide (0≤n) && decide (n≤31)
def zfu (n:Int):Bool:=decide (1≤n) && decide (n≤32)
def zj7 (n:Nat):Bool:=decide (1≤n) && decide (n≤64)
def zbU:Int→List Int→Bool
 | _, []=> true
 | last,x::r=> decide (last < x) && decide (x≤65535) && zbU x r
def zfT (l:List Int):Bool:=zbU 0 l && (decide (1≤l.length) && decide (l.length≤8))
def zh1 (k:Int):List UInt8:=
 if k=1 then [110] else if k=2 then [118] else if k=3 then [118,110] else if k=4 then [118,98,100] else if k=5 then [118,98,110]
 else if k=6 then [109] else if k=7 then [105] else if k=8 then [105] else if k=9 then [105] else if k=10 then [118,112] else if k=11 then [118,112]
 else if k=12 then [118,105] else if k=13 then [118,112] else if k=14 then [] else if k=15 then [118,98] else if k=16 then [118,98,112]
 else if k=17 then [] else if k=18 then [112] else []
def zpW (v i b n:Int) (dn:Nat) (mem:List Int) (c:UInt8):Bool:=
 if c=118 then znF v else if c=105 then znF i else if c=98 then zfv b else if c=110 then zfu n else if c=100 then zj7 dn else if c=109 then zfT mem else true
def zeC (k v i b n:Int) (dn:Nat) (mem:List Int):Bool:=
 (decide (1≤k) && decide (k≤19)) && (zh1 k).all (zpW v i b n dn mem)
theorem ztc (k:Int) (h1:1≤k) (h2:k≤19):k=1∨k=2∨k=3∨k=4∨k=5∨k=6∨k=7∨k=8∨k=9∨k=10∨k=11∨k=12∨k=13∨k=14∨k=15∨k=16∨k=17∨k=18∨k=19:=by omega
structure PO where
 k:Int
 v:Int
 i:Int
 b:Int
 n:Int
 pt:Int
 d:List UInt8
 m:List Int
def PO.right (o:PO):Bool:=zeC o.k o.v o.i o.b o.n o.d.length o.m
end
section
open Go.RowKit
theorem zcj (x:Int) (w:World):Calls Tryz.prog 221 #[.int .u16 x] w fun e w'=> e= .returned (.bool false)∧w'=w:=by
 go_enter Tryz.func221,Tryz.ntmps221;go_wp2_with fail;go_ret;exact ⟨by simp,rfl⟩
theorem ziF (x y:Int) (w:World):Calls Tryz.prog 213 #[.int .u16 x, .int .u16 y] w fun e w'=> e= .returned (.int .i64 (Lib.compareInt x y))∧w'=w:=by
 unfold Lib.compareInt
 by_cases h1:x < y
 ·have d1:decide (x < y)=true:=decide_eq_true h1;rw [if_pos h1];go_enter Tryz.func213,Tryz.ntmps213;go_wp2_with fail;refine (zcj x w).mono ?_;rintro e w2 ⟨rfl,rfl⟩;go_wp2_with fail;refine (zcj y w2).mono ?_;rintro e w3 ⟨rfl,rfl⟩;go_wp2_with fail;go_ret;exact ⟨rfl,rfl⟩
 ·have d1:decide (x < y)=false:=decide_eq_false h1;rw [if_neg h1]
  by_cases h2:x > y
  ·have d2:decide (x > y)=true:=decide_eq_true h2;rw [if_pos h2];go_enter Tryz.func213,Tryz.ntmps213;go_wp2_with fail;refine (zcj x w).mono ?_;rintro e w2 ⟨rfl,rfl⟩;go_wp2_with fail;refine (zcj y w2).mono ?_;rintro e w3 ⟨rfl,rfl⟩;go_wp2_with fail;go_ret;exact ⟨rfl,rfl⟩
  ·have d2:decide (x > y)=false:=decide_eq_false h2;rw [if_neg h2];go_enter Tryz.func213,Tryz.ntmps213;go_wp2_with fail;refine (zcj x w).mono ?_;rintro e w2 ⟨rfl,rfl⟩;go_wp2_with fail;refine (zcj y w2).mono ?_;rintro e w3 ⟨rfl,rfl⟩;go_wp2_with fail;go_ret;exact ⟨rfl,rfl⟩
theorem zck (x:Int) (w:World):Calls Tryz.prog 222 #[.int .u32 x] w fun e w'=> e= .returned (.bool false)∧w'=w:=by
 go_enter Tryz.func222,Tryz.ntmps222;go_wp2_with fail;go_ret;exact ⟨by simp,rfl⟩
theorem ziG (x y:Int) (w:World):Calls Tryz.prog 214 #[.int .u32 x, .int .u32 y] w fun e w'=> e= .returned (.int .i64 (Lib.compareInt x y))∧w'=w:=by
 unfold Lib.compareInt
 by_cases h1:x < y
 ·have d1:decide (x < y)=true:=decide_eq_true h1;rw [if_pos h1];go_enter Tryz.func214,Tryz.ntmps214;go_wp2_with fail;refine (zck x w).mono ?_;rintro e w2 ⟨rfl,rfl⟩;go_wp2_with fail;refine (zck y w2).mono ?_;rintro e w3 ⟨rfl,rfl⟩;go_wp2_with fail;go_ret;exact ⟨rfl,rfl⟩
 ·have d1:decide (x < y)=false:=decide_eq_false h1;rw [if_neg h1]
  by_cases h2:x > y
  ·have d2:decide (x > y)=true:=decide_eq_true h2;rw [if_pos h2];go_enter Tryz.func214,Tryz.ntmps214;go_wp2_with fail;refine (zck x w).mono ?_;rintro e w2 ⟨rfl,rfl⟩;go_wp2_with fail;refine (zck y w2).mono ?_;rintro e w3 ⟨rfl,rfl⟩;go_wp2_with fail;go_ret;exact ⟨rfl,rfl⟩
  ·have d2:decide (x > y)=false:=decide_eq_false h2;rw [if_neg h2];go_enter Tryz.func214,Tryz.ntmps214;go_wp2_with fail;refine (zck x w).mono ?_;rintro e w2 ⟨rfl,rfl⟩;go_wp2_with fail;refine (zck y w2).mono ?_;rintro e w3 ⟨rfl,rfl⟩;go_wp2_with fail;go_ret;exact ⟨rfl,rfl⟩
theorem zbJ (x:Int) (w:World):Calls Tryz.prog 210 #[.int .u64 x] w fun e w'=> e= .returned (.bool false)∧w'=w:=by
 go_enter Tryz.func210,Tryz.ntmps210;go_wp2_with fail;go_ret;exact ⟨by simp,rfl⟩
theorem ziH (x y:Int) (w:World):Calls Tryz.prog 215 #[.int .u64 x, .int .u64 y] w fun e w'=> e= .returned (.int .i64 (Lib.compareInt x y))∧w'=w:=by
 unfold Lib.compareInt
 by_cases h1:x < y
 ·have d1:decide (x < y)=true:=decide_eq_true h1;rw [if_pos h1];go_enter Tryz.func215,Tryz.ntmps215;go_wp2_with fail;refine (zbJ x w).mono ?_;rintro e w2 ⟨rfl,rfl⟩;go_wp2_with fail;refine (zbJ y w2).mono ?_;rintro e w3 ⟨rfl,rfl⟩;go_wp2_with fail;go_ret;exact ⟨rfl,rfl⟩
 ·have d1:decide (x < y)=false:=decide_eq_false h1;rw [if_neg h1]
  by_cases h2:x > y
  ·have d2:decide (x > y)=true:=decide_eq_true h2;rw [if_pos h2];go_enter Tryz.func215,Tryz.ntmps215;go_wp2_with fail;refine (zbJ x w).mono ?_;rintro e w2 ⟨rfl,rfl⟩;go_wp2_with fail;refine (zbJ y w2).mono ?_;rintro e w3 ⟨rfl,rfl⟩;go_wp2_with fail;go_ret;exact ⟨rfl,rfl⟩
  ·have d2:decide (x > y)=false:=decide_eq_false h2;rw [if_neg h2];go_enter Tryz.func215,Tryz.ntmps215;go_wp2_with fail;refine (zbJ x w).mono ?_;rintro e w2 ⟨rfl,rfl⟩;go_wp2_with fail;refine (zbJ y w2).mono ?_;rintro e w3 ⟨rfl,rfl⟩;go_wp2_with fail;go_ret;exact ⟨rfl,rfl⟩
def or3 (a b c:Int):Int:=if a=0 then (if b=0 then c else b) else a
theorem zpt (b:Nat) (x y z:Int) (w:World) (hx:w.cell? ⟨b,0,none⟩=some (.int .i64 x)) (hy:w.cell? ⟨b,1,none⟩=some (.int .i64 y)) (hz:w.cell? ⟨b,2,none⟩=some (.int .i64 z)):
 Calls Tryz.prog 212 #[.slice (some ⟨b,0,none⟩) 3 3] w fun e w'=> e= .returned (.int .i64 (or3 x y z))∧w'=w:=by
 by_cases h1:x=0
 ·subst h1
  by_cases h2:y=0
  ·subst h2;have BQ:or3 0 0 z=z:=by simp [or3]
   rw [BQ];clear BQ
   by_cases h3:z=0
   ·subst h3;go_enter Tryz.func212,Tryz.ntmps212;go_wp2_with fail;refine wp_loop_rounds 4 ?_;rw [rounds_succ];go_wp2_with fail;rw [rounds_succ];go_wp2_with fail;rw [rounds_succ];go_wp2_with fail;rw [rounds_succ];go_wp2_with fail;go_ret;exact ⟨rfl,rfl⟩
   ·have d3:(z !=0)=true:=by simpa using h3
    go_enter Tryz.func212,Tryz.ntmps212;go_wp2_with fail;refine wp_loop_rounds 4 ?_;rw [rounds_succ];go_wp2_with fail;rw [rounds_succ];go_wp2_with fail;rw [rounds_succ];go_wp2_with fail;go_ret;exact ⟨rfl,rfl⟩
  ·have d2:(y !=0)=true:=by simpa using h2
   have BQ:or3 0 y z=y:=by simp [or3,h2]
   rw [BQ];clear BQ;go_enter Tryz.func212,Tryz.ntmps212;go_wp2_with fail;refine wp_loop_rounds 4 ?_;rw [rounds_succ];go_wp2_with fail;rw [rounds_succ];go_wp2_with fail;go_ret;exact ⟨rfl,rfl⟩
 ·have d1:(x !=0)=true:=by simpa using h1
  have BQ:or3 x y z=x:=by simp [or3,h1]
  rw [BQ];clear BQ;go_enter Tryz.func212,Tryz.ntmps212;go_wp2_with fail;refine wp_loop_rounds 4 ?_;rw [rounds_succ];go_wp2_with fail;go_ret;exact ⟨rfl,rfl⟩
theorem zd4 (w:World) (x y z:Int) (t:TypeId):(w.alloc (.cells #[.int .i64 x, .int .i64 y, .int .i64 z] t)).cell? ⟨w.heap.size,0,none⟩=some (.int .i64 x)∧(w.alloc (.cells #[.int .i64 x, .int .i64 y, .int .i64 z] t)).cell? ⟨w.heap.size,1,none⟩=some (.int .i64 y)∧(w.alloc (.cells #[.int .i64 x, .int .i64 y, .int .i64 z] t)).cell? ⟨w.heap.size,2,none⟩=some (.int .i64 z):=by
 refine ⟨?_, ?_, ?_⟩ <;> simp
theorem zu {w:World} {p:Addr} {v:Value} (h:w.cell? p=some v) (o:Obj):(w.alloc o).cell? p=some v:=by
 have hlt:=zb _ _ h;rw [((Below.refl w.heap.size w).alloc zl o).cell hlt];exact h
def zj (k:Nat):Nat:=k / 79228162514264337593543950336
def zo (k:Nat):Nat:=k / 18446744073709551616 % 4294967296
def zp (k:Nat):Nat:=k % 18446744073709551616
def za2 (k:Nat):Value:= .agg #[.int .u16 (zj k:Int), .int .u32 (zo k:Int), .int .u64 (zp k:Int)]
def zjM (a b:Nat):Int:=if a < b then -1 else if b < a then 1 else 0
theorem zpi (a b:Nat):or3 (Lib.compareInt (zj a) (zj b)) (Lib.compareInt (zo a) (zo b)) (Lib.compareInt (zp a) (zp b))=zjM a b:=by
 have ha:a=zj a * 79228162514264337593543950336+zo a * 18446744073709551616+zp a:=by unfold zj zo zp;omega
 have hb:b=zj b * 79228162514264337593543950336+zo b * 18446744073709551616+zp b:=by unfold zj zo zp;omega
 have a1:zo a < 4294967296:=by unfold zo;omega
 have a2:zp a < 18446744073709551616:=by unfold zp;omega
 have b1:zo b < 4294967296:=by unfold zo;omega
 have b2:zp b < 18446744073709551616:=by unfold zp;omega
 generalize zj a=va at *;generalize zo a=ka at *;generalize zp a=sa at *;generalize zj b=vb at *;generalize zo b=kb at *;generalize zp b=sb at *;subst ha;subst hb;unfold or3 Lib.compareInt zjM
 by_cases e1:va=vb
 ·subst e1
  by_cases e2:ka=kb
  ·subst e2
   by_cases e3:sa=sb
   ·subst e3;simp
   ·by_cases e4:sa < sb
    ·rw [if_pos (by simp),if_pos (by simp),if_pos (by omega),if_pos (by omega)]
    ·rw [if_pos (by simp),if_pos (by simp),if_neg (by omega),if_pos (by omega),if_neg (by omega),if_pos (by omega)]
  ·by_cases e4:ka < kb
   ·rw [if_pos (by simp),if_pos (show (ka:Int) < (kb:Int) by omega),if_pos (show va * 79228162514264337593543950336+ka * 18446744073709551616+sa < va * 79228162514264337593543950336+kb * 18446744073709551616+sb by omega)]
    simp
   ·have e5:kb < ka:=by omega
    have e6:¬(ka:Int) < (kb:Int):=by omega
    have e7:(ka:Int) > (kb:Int):=by omega
    rw [if_neg (show ¬va * 79228162514264337593543950336+ka * 18446744073709551616+sa < va * 79228162514264337593543950336+kb * 18446744073709551616+sb by omega),if_pos (show va * 79228162514264337593543950336+kb * 18446744073709551616+sb < va * 79228162514264337593543950336+ka * 18446744073709551616+sa by omega)]
    simp [e6,e7]
 ·by_cases e4:va < vb
  ·have e6:(va:Int) < (vb:Int):=by omega
   rw [if_pos (show va * 79228162514264337593543950336+ka * 18446744073709551616+sa < vb * 79228162514264337593543950336+kb * 18446744073709551616+sb by omega)]
   simp [e6]
  ·have e6:¬(va:Int) < (vb:Int):=by omega
   have e7:(va:Int) > (vb:Int):=by omega
   rw [if_neg (show ¬va * 79228162514264337593543950336+ka * 18446744073709551616+sa < vb * 79228162514264337593543950336+kb * 18446744073709551616+sb by omega),if_pos (show vb * 79228162514264337593543950336+kb * 18446744073709551616+sb < va * 79228162514264337593543950336+ka * 18446744073709551616+sa by omega)]
   simp [e6,e7]
def zoT (B:Nat) (W':World) (a1 a2 a3 b1 b2 b3:Int):Prop:=W'.cell? ⟨B,0,none⟩=some (.int .u16 a1)∧W'.cell? ⟨B,1,none⟩=some (.int .u32 a2)∧W'.cell? ⟨B,2,none⟩=some (.int .u64 a3)∧W'.cell? ⟨B+1,0,none⟩=some (.int .u16 b1)∧W'.cell? ⟨B+1,1,none⟩=some (.int .u32 b2)∧W'.cell? ⟨B+1,2,none⟩=some (.int .u64 b3)
theorem zoT.alloc {B:Nat} {w:World} {a1 a2 an b1 b2 bn:Int} (h:zoT B w a1 a2 an b1 b2 bn) (o:Obj):zoT B (w.alloc o) a1 a2 an b1 b2 bn:=
 ⟨zu h.1 o,zu h.2.1 o,zu h.2.2.1 o,zu h.2.2.2.1 o,zu h.2.2.2.2.1 o,zu h.2.2.2.2.2 o⟩
theorem zcb (a b:Nat) (W:World):
 Calls Tryz.prog 178 #[za2 a,za2 b] W fun e w'=> e= .returned (.int .i64 (zjM a b))∧Below W.heap.size W w':=by
 rw [← zpi];unfold za2;generalize (zj a:Int)=a1;generalize (zo a:Int)=a2;generalize (zp a:Int)=an;generalize (zj b:Int)=b1;generalize (zo b:Int)=b2;generalize (zp b:Int)=bn;generalize F9:Lib.compareInt a1 b1=c1 at *;generalize Bd:Lib.compareInt a2 b2=c2 at *;generalize G4:Lib.compareInt an bn=c3 at *;have ho:=fun b' W'=> zpt b' c1 c2 c3 W';generalize or3 c1 c2 c3=r at *;go_enter Tryz.func178,Tryz.ntmps178;go_wp2_with fail;have hx:Below W.heap.size W ((W.alloc (.cells #[.int .u16 a1, .int .u32 a2, .int .u64 an] 132)).alloc (.cells #[.int .u16 b1, .int .u32 b2, .int .u64 bn] 132)):=(zr.alloc zl _).alloc (by simp) _
 have hS:zoT W.heap.size ((W.alloc (.cells #[.int .u16 a1, .int .u32 a2, .int .u64 an] 132)).alloc (.cells #[.int .u16 b1, .int .u32 b2, .int .u64 bn] 132)) a1 a2 an b1 b2 bn:=by
  refine ⟨?_, ?_, ?_, ?_, ?_, ?_⟩ <;> simp
 generalize ((W.alloc (.cells #[.int .u16 a1, .int .u32 a2, .int .u64 an] 132)).alloc (.cells #[.int .u16 b1, .int .u32 b2, .int .u64 bn] 132))=WB at *;generalize hB:W.heap.size=B at *;have DC:∀o,zoT B (WB.alloc o) a1 a2 an b1 b2 bn:=fun o=> hS.alloc o;have CJ:∀o,zoT B (WB.alloc o).drew a1 a2 an b1 b2 bn:=fun o=> hS.alloc o;unfold zoT at hS DC CJ;have A5:=ho WB.heap.size (WB.alloc (.cells #[.int .i64 c1, .int .i64 c2, .int .i64 c3] 3)).drew (zd4 WB _ _ _ _).1 (zd4 WB _ _ _ _).2.1 (zd4 WB _ _ _ _).2.2;clear ho
 go_region_held (fun W'=> W'.cell? ⟨B,0,none⟩=some (.int .u16 a1)∧W'.cell? ⟨B,1,none⟩=some (.int .u32 a2)∧W'.cell? ⟨B,2,none⟩=some (.int .u64 an)∧W'.cell? ⟨B+1,0,none⟩=some (.int .u16 b1)∧W'.cell? ⟨B+1,1,none⟩=some (.int .u32 b2)∧W'.cell? ⟨B+1,2,none⟩=some (.int .u64 bn)) (first | exact hS | exact DC _ | exact CJ _)
  (first
    | (go_at_call 213;refine (ziF _ _ _).mono ?_;rintro e w5 ⟨rfl,rfl⟩)
    | (go_at_call 214;refine (ziG _ _ _).mono ?_;rintro e w5 ⟨rfl,rfl⟩)
    | (go_at_call 215;refine (ziH _ _ _).mono ?_;rintro e w5 ⟨rfl,rfl⟩)
    | (go_at_call 212;refine A5.mono ?_;rintro e w5 ⟨rfl,rfl⟩))
 all_goals
  go_wp2_with fail;go_ret;refine ⟨rfl, ?_⟩;rw [hB];have hh:=hx.alloc (by have:=hx.size;omega) (.cells #[.int .i64 c1, .int .i64 c2, .int .i64 c3] 3)
  exact ⟨hh.os,hh.tape,hh.output,hh.size,hh.block⟩
end
section
open Go.RowKit
theorem Below.drewB {B:Nat} {w0 w:World} (h:Below B w0 w):Below B w0 w.drew:=⟨h.os,h.tape,h.output,h.size,h.block⟩
def ziq (w:World) (a:Option Addr) (n:Nat) (ks:List Nat):Prop:=
 ks.length=n∧∀i k,ks[i]? =some k→∃b o,a=some ⟨b,o,none⟩∧w.cell? ⟨b,o+i * 3,none⟩=some (.int .u16 (zj k:Int))∧w.cell? ⟨b,o+i * 3+1,none⟩=some (.int .u32 (zo k:Int))∧w.cell? ⟨b,o+i * 3+2,none⟩=some (.int .u64 (zp k:Int))
theorem ziq.below {w w':World} {C:Nat} {a:Option Addr} {n:Nat} {ks:List Nat} (h:ziq w a n ks) (hb:Below C w w') (hC:w.heap.size≤C):ziq w' a n ks:=by
 refine ⟨h.1,fun i r hr=> ?_⟩;obtain ⟨b,o,ha,h1,h2,h3⟩:=h.2 i r hr;have hlt:=zb _ _ h1;simp at hlt;refine ⟨b,o,ha, ?_, ?_, ?_⟩
 ·rw [hb.cell (p:=⟨b,o+i * 3,none⟩) (by show b < C;omega)];exact h1
 ·rw [hb.cell (p:=⟨b,o+i * 3+1,none⟩) (by show b < C;omega)];exact h2
 ·rw [hb.cell (p:=⟨b,o+i * 3+2,none⟩) (by show b < C;omega)];exact h3
theorem ziq.list {w:World} {a:Option Addr} {n:Nat} {ks:List Nat} (h:ziq w a n ks) (i:Nat) (hi:i < n):∃b o k,a=some ⟨b,o,none⟩∧ks[i]? =some k∧w.cell? ⟨b,o+i * 3,none⟩=some (.int .u16 (zj k:Int))∧w.cell? ⟨b,o+i * 3+1,none⟩=some (.int .u32 (zo k:Int))∧w.cell? ⟨b,o+i * 3+2,none⟩=some (.int .u64 (zp k:Int)):=by
 have hl:i < ks.length:=by rw [h.1];exact hi
 obtain ⟨b,o,ha,h1,h2,h3⟩:=h.2 i ks[i] (ze hl);exact ⟨b,o,ks[i],ha,ze hl,h1,h2,h3⟩
def lbN (ks:List Nat) (k:Nat):Nat:=(ks.filter fun x=> decide (x < k)).length
theorem zpV {ks:List Nat} {k i:Nat} (hi:i≤ks.length) (h1:∀j x,j < i→ks[j]? =some x→x < k) (h2:∀j x,i≤j→ks[j]? =some x→k≤x):lbN ks k=i:=by
 unfold lbN;have e:ks.filter (fun x=> decide (x < k))=ks.take i:=by
  conv=> lhs;rw [← List.take_append_drop i ks]
  rw [List.filter_append];have ha:(ks.take i).filter (fun x=> decide (x < k))=ks.take i:=by
   rw [List.filter_eq_self];intro x hx;obtain ⟨j,hj⟩:=List.getElem?_of_mem hx;have FT:=(zi hj).1;rw [List.length_take] at FT;rw [List.getElem?_take_of_lt (by omega)] at hj
   simpa using h1 j x (by omega) hj
  have hb:(ks.drop i).filter (fun x=> decide (x < k))= []:=by
   rw [List.filter_eq_nil_iff];intro x hx;obtain ⟨j,hj⟩:=List.getElem?_of_mem hx;rw [List.getElem?_drop] at hj;have:=h2 _ x (by omega) hj
   simp;omega
  rw [ha,hb,List.append_nil]
 rw [e,List.length_take]
 omega
theorem zl5 (a b:Nat):(zjM a b < 0)↔a < b:=by
 unfold zjM
 by_cases h:a < b
 ·simp [h]
 ·by_cases h2:b < a <;> simp [h,h2]
theorem zo0 (a b:Nat):(zjM a b=0)↔a=b:=by
 unfold zjM
 by_cases h:a < b
 ·simp [h];omega
 ·by_cases h2:b < a
  ·simp [h,h2];omega
  ·simp [h,h2];omega
theorem zdw (a:Option Addr) (n c:Nat) (ks:List Nat) (k:Nat) (w:World) (h:ziq w a n ks) (hn:n≤1000000) (hs:ks.Pairwise (· < ·)):
 Calls Tryz.prog 177 #[.slice a n c,za2 k, .func (.func 178) #[] #[]] w fun e w'=> e= .returned (.tuple #[.int .i64 (lbN ks k:Nat), .bool (decide (k ∈ ks))])∧Below w.heap.size w w':=by
 have Aq:Below w.heap.size w (w.alloc (.cells #[.int .u16 (zj k:Int), .int .u32 (zo k:Int), .int .u64 (zp k:Int)] 132)):=zr.alloc zl _;have x0:(w.alloc (.cells #[.int .u16 (zj k:Int), .int .u32 (zo k:Int), .int .u64 (zp k:Int)] 132)).cell? ⟨w.heap.size,0,none⟩=some (.int .u16 (zj k:Int)):=by simp
 have x1:(w.alloc (.cells #[.int .u16 (zj k:Int), .int .u32 (zo k:Int), .int .u64 (zp k:Int)] 132)).cell? ⟨w.heap.size,1,none⟩=some (.int .u32 (zo k:Int)):=by simp
 have x2:(w.alloc (.cells #[.int .u16 (zj k:Int), .int .u32 (zo k:Int), .int .u64 (zp k:Int)] 132)).cell? ⟨w.heap.size,2,none⟩=some (.int .u64 (zp k:Int)):=by simp
 have AR:(w.alloc (.cells #[.int .u16 (zj k:Int), .int .u32 (zo k:Int), .int .u64 (zp k:Int)] 132)).heap.size=w.heap.size+1:=by simp
 have hh:=h.below Aq zl;have Ac:=h.1;have HH:=zh hh;have HS:=zh hs;clear h hh hs;unfold za2;go_enter Tryz.func177,Tryz.ntmps177;go_wp2_with fail;generalize w.alloc (.cells #[.int .u16 (zj k:Int), .int .u32 (zo k:Int), .int .u64 (zp k:Int)] 132)=w0 at *;generalize hB:w.heap.size=B at *
 go_loopw [9,10] (fun u9 u10 wr=> ∃i j:Nat,i≤j∧j≤n∧u9= .int .i64 i∧u10= .int .i64 j∧(∀t x,t < i→ks[t]? =some x→x < k)∧(∀t x,j≤t→ks[t]? =some x→k≤x)∧Below w0.heap.size w0 wr) (fun u9 u10 _=> (intOf u10).toNat - (intOf u9).toNat)
 case atStart=> exact ⟨0,n,by omega,by omega,rfl,rfl,fun t x ht _=> by omega,fun t x ht hx=> by have:=(zi hx).1;omega,Below.refl _ _⟩
 case round=>
  obtain ⟨i,j,Fr,kO,rfl,rfl,Gd,JI,AA⟩:=hrel;have z0:wr.cell? ⟨B,0,none⟩=some (.int .u16 (zj k:Int)):=by rw [AA.cell (p:=⟨B,0,none⟩) (by show B < w0.heap.size;omega)];exact x0
  have z1:wr.cell? ⟨B,1,none⟩=some (.int .u32 (zo k:Int)):=by rw [AA.cell (p:=⟨B,1,none⟩) (by show B < w0.heap.size;omega)];exact x1
  have z2:wr.cell? ⟨B,2,none⟩=some (.int .u64 (zp k:Int)):=by rw [AA.cell (p:=⟨B,2,none⟩) (by show B < w0.heap.size;omega)];exact x2
  have Om:=zh Gd;have Oi:=zh JI;clear Gd JI
  by_cases hlt:i < j
  ·have ME:(i:Int) < (j:Int):=by omega
   have Ab:IntKind.i64.wrap ((i:Int)+(j:Int))=(i:Int)+(j:Int):=zw _ (by omega)
   obtain ⟨m,hm⟩:∃m:Nat,((i:Int)+(j:Int)) / 2=(m:Int):=⟨(i+j) / 2,by omega⟩
   have CT:i≤m:=by omega
   have Fs:m < j:=by omega
   go_wp2_with fail;clear hm Ab;have QV:(m:Int) < (n:Int):=by omega
   have DT:(0:Int)≤(m:Int):=by omega
   obtain ⟨b,o,x,rfl,hx,d0,d1,d2⟩:=(HH.out.below AA zl).list m (by omega)
   have hS:wr.drew.cell? ⟨b,o+m * 3,none⟩=some (.int .u16 (zj x:Int))∧wr.drew.cell? ⟨b,o+m * 3+1,none⟩=some (.int .u32 (zo x:Int))∧wr.drew.cell? ⟨b,o+m * 3+2,none⟩=some (.int .u64 (zp x:Int))∧wr.drew.cell? ⟨B,0,none⟩=some (.int .u16 (zj k:Int))∧wr.drew.cell? ⟨B,1,none⟩=some (.int .u32 (zo k:Int))∧wr.drew.cell? ⟨B,2,none⟩=some (.int .u64 (zp k:Int)):=⟨d0,d1,d2,z0,z1,z2⟩;have Bg:∀w5,Below wr.drew.heap.size wr.drew w5→w5.cell? ⟨b,o+m * 3,none⟩=some (.int .u16 (zj x:Int))∧w5.cell? ⟨b,o+m * 3+1,none⟩=some (.int .u32 (zo x:Int))∧w5.cell? ⟨b,o+m * 3+2,none⟩=some (.int .u64 (zp x:Int))∧w5.cell? ⟨B,0,none⟩=some (.int .u16 (zj k:Int))∧w5.cell? ⟨B,1,none⟩=some (.int .u32 (zo k:Int))∧w5.cell? ⟨B,2,none⟩=some (.int .u64 (zp k:Int)):=fun w5 h5=>
        ⟨(h5.cell (zb _ _ d0)).trans d0,(h5.cell (zb _ _ d1)).trans d1,(h5.cell (zb _ _ d2)).trans d2,(h5.cell (zb _ _ z0)).trans z0,(h5.cell (zb _ _ z1)).trans z1,(h5.cell (zb _ _ z2)).trans z2⟩
   have B9:=zh Bg;have PB:=fun W'=> zcb x k W';have Em:=zl5 x k;generalize zjM x k=r at *;have He:=zh PB;have HX:=zh hx;have JQ:Hid (∀w5,Below wr.drew.heap.size wr.drew w5→Below w0.heap.size w0 w5):=zh fun w5 h5=> Below.trans (show Below w0.heap.size w0 wr.drew from ⟨AA.os,AA.tape,AA.output,AA.size,AA.block⟩) (Below.mono h5 AA.size);clear Bg PB d0 d1 d2 z0 z1 z2 hx
   by_cases Il:x < k
   ·have hr:decide (r < 0)=true:=decide_eq_true (Em.2 Il);have TI:∀t y,t < m+1→ks[t]? =some y→y < k:=fun t y ht hy=> by
     rcases Nat.lt_or_ge t m with h1 | h1
     ·have M0:=List.pairwise_iff_getElem.1 HS.out t m (zi hy).1 (zi HX.out).1 h1;rw [(zi hy).2,(zi HX.out).2] at M0
      omega
     ·have:t=m:=by omega
      subst this;rw [HX.out] at hy
      cases hy
      exact Il
    have HN:=zh TI;clear Em Il TI
    go_region_held (fun W'=> W'.cell? ⟨b,o+m * 3,none⟩=some (.int .u16 (zj x:Int))∧W'.cell? ⟨b,o+m * 3+1,none⟩=some (.int .u32 (zo x:Int))∧W'.cell? ⟨b,o+m * 3+2,none⟩=some (.int .u64 (zp x:Int))∧W'.cell? ⟨B,0,none⟩=some (.int .u16 (zj k:Int))∧W'.cell? ⟨B,1,none⟩=some (.int .u32 (zo k:Int))∧W'.cell? ⟨B,2,none⟩=some (.int .u64 (zp k:Int))) (first | exact Ca | exact hS)
     (first | (go_at_call 178;refine (He.out _).mono ?_;rintro e w5 ⟨rfl,Ag⟩;have Ca:=B9.out w5 Ag))
    all_goals
     go_wp2_with fail
     go_roundw
     case rel=> exact ⟨m+1,j,by omega,by omega,by go_num,rfl,HN.out,Oi.out,JQ.out _ Ag⟩
     case measure=> simp [intOf];omega
   ·have hr:decide (r < 0)=false:=decide_eq_false (fun h=> Il (Em.1 h));have TH:∀t y,m≤t→ks[t]? =some y→k≤y:=fun t y ht hy=> by
     rcases Nat.lt_or_ge m t with h1 | h1
     ·have M0:=List.pairwise_iff_getElem.1 HS.out m t (zi HX.out).1 (zi hy).1 h1;rw [(zi hy).2,(zi HX.out).2] at M0
      omega
     ·have:t=m:=by omega
      subst this;rw [HX.out] at hy
      cases hy
      omega
    have HN:=zh TH;clear Em Il TH
    go_region_held (fun W'=> W'.cell? ⟨b,o+m * 3,none⟩=some (.int .u16 (zj x:Int))∧W'.cell? ⟨b,o+m * 3+1,none⟩=some (.int .u32 (zo x:Int))∧W'.cell? ⟨b,o+m * 3+2,none⟩=some (.int .u64 (zp x:Int))∧W'.cell? ⟨B,0,none⟩=some (.int .u16 (zj k:Int))∧W'.cell? ⟨B,1,none⟩=some (.int .u32 (zo k:Int))∧W'.cell? ⟨B,2,none⟩=some (.int .u64 (zp k:Int))) (first | exact Ca | exact hS)
     (first | (go_at_call 178;refine (He.out _).mono ?_;rintro e w5 ⟨rfl,Ag⟩;have Ca:=B9.out w5 Ag))
    all_goals
     go_wp2_with fail
     go_roundw
     case rel=> exact ⟨i,m,by omega,by omega,rfl,by go_num,Om.out,HN.out,JQ.out _ Ag⟩
     case measure=> simp [intOf];omega
  ·obtain rfl:i=j:=by omega
   have KE:lbN ks k=i:=zpV (by omega) Om.out Oi.out
   have ZK:=zh KE;clear KE
   by_cases G8:i < n
   ·have Mz:(i:Int) < (n:Int):=by omega
    have AD:(0:Int)≤(i:Int):=by omega
    obtain ⟨b,o,x,rfl,hx,d0,d1,d2⟩:=(HH.out.below AA zl).list i G8;have hS:wr.drew.cell? ⟨b,o+i * 3,none⟩=some (.int .u16 (zj x:Int))∧wr.drew.cell? ⟨b,o+i * 3+1,none⟩=some (.int .u32 (zo x:Int))∧wr.drew.cell? ⟨b,o+i * 3+2,none⟩=some (.int .u64 (zp x:Int))∧wr.drew.cell? ⟨B,0,none⟩=some (.int .u16 (zj k:Int))∧wr.drew.cell? ⟨B,1,none⟩=some (.int .u32 (zo k:Int))∧wr.drew.cell? ⟨B,2,none⟩=some (.int .u64 (zp k:Int)):=⟨d0,d1,d2,z0,z1,z2⟩;have Bg:∀w5,Below wr.drew.heap.size wr.drew w5→w5.cell? ⟨b,o+i * 3,none⟩=some (.int .u16 (zj x:Int))∧w5.cell? ⟨b,o+i * 3+1,none⟩=some (.int .u32 (zo x:Int))∧w5.cell? ⟨b,o+i * 3+2,none⟩=some (.int .u64 (zp x:Int))∧w5.cell? ⟨B,0,none⟩=some (.int .u16 (zj k:Int))∧w5.cell? ⟨B,1,none⟩=some (.int .u32 (zo k:Int))∧w5.cell? ⟨B,2,none⟩=some (.int .u64 (zp k:Int)):=fun w5 h5=>
     ⟨(h5.cell (zb _ _ d0)).trans d0,(h5.cell (zb _ _ d1)).trans d1,(h5.cell (zb _ _ d2)).trans d2,(h5.cell (zb _ _ z0)).trans z0,(h5.cell (zb _ _ z1)).trans z1,(h5.cell (zb _ _ z2)).trans z2⟩
    have B9:=zh Bg;have PB:=fun W'=> zcb x k W';have Cb:(zjM x k==0)=decide (k ∈ ks):=by
     rw [show (zjM x k==0)=decide (zjM x k=0) from rfl,decide_eq_decide,zo0]
     constructor
     ·rintro rfl;exact zm hx
     ·intro hk;obtain ⟨t,ht⟩:=List.getElem?_of_mem hk;rcases Nat.lt_trichotomy t i with h1 | h1 | h1
      ·have:=Om.out t k h1 ht
       omega
      ·subst h1;rw [hx] at ht;exact Option.some.inj ht
      ·have M0:=List.pairwise_iff_getElem.1 HS.out i t (zi hx).1 (zi ht).1 h1;rw [(zi ht).2,(zi hx).2] at M0;have:=Oi.out i x zl hx
       omega
    generalize zjM x k=r at *;generalize DF:decide (k ∈ ks)=bd at *;have In:=zh DF;have He:=zh PB;have JQ:Hid (∀w5,Below wr.drew.heap.size wr.drew w5→Below w0.heap.size w0 w5):=zh fun w5 h5=> Below.trans (show Below w0.heap.size w0 wr.drew from ⟨AA.os,AA.tape,AA.output,AA.size,AA.block⟩) (Below.mono h5 AA.size);clear Bg PB d0 d1 d2 z0 z1 z2 hx DF;go_wp2_with fail
    go_region_held (fun W'=> W'.cell? ⟨b,o+i * 3,none⟩=some (.int .u16 (zj x:Int))∧W'.cell? ⟨b,o+i * 3+1,none⟩=some (.int .u32 (zo x:Int))∧W'.cell? ⟨b,o+i * 3+2,none⟩=some (.int .u64 (zp x:Int))∧W'.cell? ⟨B,0,none⟩=some (.int .u16 (zj k:Int))∧W'.cell? ⟨B,1,none⟩=some (.int .u32 (zo k:Int))∧W'.cell? ⟨B,2,none⟩=some (.int .u64 (zp k:Int))) (first | exact Ca | exact hS)
     (first | (go_at_call 178;refine (He.out _).mono ?_;rintro e w5 ⟨rfl,Ag⟩;have Ca:=B9.out w5 Ag))
    all_goals
     go_wp2_with fail;go_ret2;exact ⟨by rw [ZK.out,In.out];rfl,by rw [hB];exact Aq.trans ((JQ.out _ Ag).mono (by omega))⟩
   ·have Vs:¬k ∈ ks:=fun hk=> by
     obtain ⟨t,ht⟩:=List.getElem?_of_mem hk;have:=Om.out t k (by have:=(zi ht).1;omega) ht
     omega
    have UE:=zh Vs;have yT:decide ((i:Int) < (n:Int))=false:=decide_eq_false (by omega)
    clear Vs;go_wp2_with fail
    go_quiet (fail)
    go_wp2_with fail;go_ret2;exact ⟨by rw [ZK.out,decide_eq_false UE.out];rfl,by rw [hB];exact Aq.trans (Below.mono (show Below w0.heap.size w0 _ from ⟨AA.os,AA.tape,AA.output,AA.size,AA.block⟩) (by omega))⟩
end
end Go.Proofs.YtfldlfladcfggaaGreat
