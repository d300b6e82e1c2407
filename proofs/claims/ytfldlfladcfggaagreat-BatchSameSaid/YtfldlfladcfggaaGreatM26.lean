/- Lemmas of the walks, merged and pressed by press.py. Conditions: those of each theorem. -/
import Derived.Test.YtfldlfladcfggaaGreatM25
import Derived.Test.YtfldlfladcfggaaGreatM21
import Derived.Laws.Externs
import Derived.Test.YtfldlfladcfggaaGreatM20
import Derived.Test.YtfldlfladcfggaaGreatM23
set_option maxRecDepth 100000
set_option maxHeartbeats 64000000
set_option linter.all false
namespace Go.Proofs.YtfldlfladcfggaaGreat
section
open Go.RowKit
theorem zhC {Q:Nat→Prop} {w:World} {h:Ch} {c:Ct} (hc:zaV Q w h c) (v:Int):c.find v=(h.vl.find? fun x=> decide ((x.v.id:Int)=v)).map (·.v):=by
 unfold Ct.find;rw [← hc.volsE,List.find?_map]
 rfl
theorem zaV.vol {Q:Nat→Prop} {w:World} {h:Ch} {c:Ct} (hc:zaV Q w h c) {p:Vh→Bool} {x:Vh} (hx:h.vl.find? p=some x):zaM Q zbZ 2 w x.a x.v.sizes∧x.v ∈ c.vols:=by
 have hm:=List.mem_of_find?_eq_some hx;exact ⟨hc.vols.sub x hm,by rw [← hc.volsE];exact List.mem_map.2 ⟨x,hm,rfl⟩⟩
def zo6 (o:Option Vl):Int:=if o.isSome then 0 else 40
theorem zme:zo6 none=40:=rfl
theorem zmf (x:Vl):zo6 (some x)=0:=rfl
theorem zaf {w:World} {h:Ch} {c:Ct} {B:Nat} {t:TypeId} (hx:w.heap[B]? =some (.cells (h.cells c) t (0,0))):
 w.cell? ⟨B,0,none⟩=some (.int .i64 (c.nv:Int))∧w.cell? ⟨B,1,none⟩=some (.int .i64 (c.ng:Int))∧w.cell? ⟨B,2,none⟩=some (.int .i64 (c.nb:Int))∧w.cell? ⟨B,3,none⟩=some (.int .u64 (c.fl:Int))∧w.cell? ⟨B,4,none⟩=some (.slice h.va c.vols.length h.vc)∧w.cell? ⟨B,5,none⟩=some (.slice h.ga c.groups.length h.gc)∧w.cell? ⟨B,6,none⟩=some (.slice h.ba c.books.length h.bc)∧w.cell? ⟨B,7,none⟩=some (.slice h.ka c.kept.length h.kc)∧w.cell? ⟨B,8,none⟩=some (.slice h.ta c.times.length h.tc)∧∀j,w.frozen? ⟨B,j,none⟩=false:=by
 unfold Ch.cells at hx;exact zJ hx
theorem zcI {Q:Nat→Prop} {w:World} {h:Ch} {c:Ct} {s k:Nat} (hc:zaV Q w h c) (hi:CtI c s k) (v:Int):
 Calls Tryz.prog 69 #[h.val c, .int .i64 v] w fun e w'=> e= .returned (.tuple #[.int .i64 (c.size v:Nat), .int .i64 (zo6 (c.find v))])∧Below w.heap.size w w':=by
 have Aa:Below w.heap.size w (w.alloc (.cells (h.cells c) 54)):=zr.alloc zl _;have HF:=zh (zc2 (hc.below Aa) (by have:=hi.vlen;omega) v)
 have HC:=zh (zn hc hi);have Ak:=zh Aa;have Io:=zh (zhC hc v);clear hc hi Aa;unfold Ch.val at *;unfold Ch.cells at *;go_enter Tryz.func69,Tryz.ntmps69;go_wp2_with fail;refine HF.out.mono ?_;rintro e w2 ⟨⟨x,hx,rfl⟩,Ae⟩;have Ap:=zh (Ak.out.trans (Ae.mono Ak.out.size));have hx:=hx.symm;clear HF Ae
 cases x with
 | none=>
   have HS:Hid (c.size v=0∧zo6 (c.find v)=40):=zh (by unfold Ct.size;rw [Io.out,hx];exact ⟨rfl,rfl⟩)
   clear hx
   dsimp only [znH,Option.isSome]
   go_wp2_with fail;go_ret2;exact ⟨by rw [HS.out.1,HS.out.2];rfl,Ap.out.alloc Ap.out.size _⟩
 | some x=>
   have hv:=HC.out.1.vol hx;have Ea:=(HC.out.2.vols x.v hv.2).sizes;have HS:Hid (c.size v=zas x.v.sizes∧zo6 (c.find v)=0):=zh (by unfold Ct.size;rw [Io.out,hx];exact ⟨rfl,rfl⟩)
   have Am:=Ap.out.alloc Ap.out.size (.cells #[.int .i64 (x.v.id:Int), .int .u64 (x.v.born:Int), .slice x.a x.v.sizes.length x.c] 144);have HN:=zh (zii (c:=x.c) (hv.1.row.below Am zl) (by have:=Ea.len;omega) (fun m hm=> (Ea.fit m hm).2.2))
   have AI:=zh Am;clear hx hv Ea Am
   dsimp only [znH,Option.isSome]
   go_wp2_with fail;refine HN.out.mono ?_;rintro e w5 ⟨rfl,rfl⟩;go_wp2_with fail;go_ret2;exact ⟨by rw [HS.out.1,HS.out.2];rfl,AI.out⟩
theorem zie (x y:Nat) (w:World):
 (callFunc 77 #[.int .u64 (x:Int), .int .u64 (y:Int), .int .u64 0]).run Tryz.prog w= .ok (.value (.tuple #[.int .u64 (((x+y) % 18446744073709551616:Nat):Int), .int .u64 (((x+y) / 18446744073709551616:Nat):Int)])) w:=by
 rw [run_callFunc_extern Tryz.func77 (by kernel_rfl) (by kernel_rfl) (by kernel_rfl) (e:=add64Entry) (by kernel_rfl),run_add64 x y 0 (by omega) (by omega) (by omega) (by omega)]
 simp only [Result.andThen]
 congr 5 <;> omega
theorem zlk (a:Nat) (h:a+1 < 18446744073709551616) (w:World):
 Calls Tryz.prog 44 #[.int .u64 (a:Int), .int .u64 1] w fun e w'=> e= .returned (.tuple #[.int .u64 ((a+1:Nat):Int), .int .i64 0])∧w'=w:=by
 have hr:=zie a 1 w;rw [Nat.mod_eq_of_lt h,Nat.div_eq_of_lt h] at hr;have Ha:(callFunc 77 #[.int .u64 (a:Int), .int .u64 1, .int .u64 0]).run Tryz.prog w= .ok (.value (.tuple #[.int .u64 ((a+1:Nat):Int), .int .u64 0])) w:=hr;generalize ((a+1:Nat):Int)=z at *;clear hr;go_enter Tryz.func44,Tryz.ntmps44;go_wp2_with fail;go_ret2;exact ⟨rfl,rfl⟩
theorem zlj (w:World):
 Calls Tryz.prog 44 #[.int .u64 18446744073709551615, .int .u64 1] w fun e w'=> e= .returned (.tuple #[.int .u64 0, .int .i64 50])∧w'=w:=by
 have Ha:(callFunc 77 #[.int .u64 18446744073709551615, .int .u64 1, .int .u64 0]).run Tryz.prog w= .ok (.value (.tuple #[.int .u64 0, .int .u64 1])) w:=zie 18446744073709551615 1 w;go_enter Tryz.func44,Tryz.ntmps44;go_wp2_with fail;go_ret2;exact ⟨rfl,rfl⟩
def zmR (s:Nat):Value:=if s=18446744073709551615 then .tuple #[.int .u64 0, .int .i64 50] else .tuple #[.int .u64 ((s+1:Nat):Int), .int .i64 0]
theorem zj5 (s:Nat) (hs:s < 18446744073709551616) (w:World):
 Calls Tryz.prog 25 #[.int .u64 (s:Int)] w fun e w'=> e= .returned (zmR s)∧w'=w:=by
 by_cases h:s=18446744073709551615
 ·have HN:=zh (show zmR s= .tuple #[.int .u64 0, .int .i64 50] from if_pos h);subst h;have HA:=zh (zlj w);go_enter Tryz.func25,Tryz.ntmps25;go_wp2_with fail;refine HA.out.mono ?_;rintro e w' ⟨rfl,rfl⟩;go_wp2_with fail;go_ret2;exact ⟨by rw [HN.out];rfl,rfl⟩
 ·have HN:=zh (show zmR s= .tuple #[.int .u64 ((s+1:Nat):Int), .int .i64 0] from if_neg h);have HA:=zh (zlk s (by omega) w)
  clear h hs;go_enter Tryz.func25,Tryz.ntmps25;go_wp2_with fail;refine HA.out.mono ?_;rintro e w' ⟨rfl,rfl⟩;generalize ((s+1:Nat):Int)=z at *;go_wp2_with fail;go_ret2;exact ⟨by rw [HN.out];rfl,rfl⟩
end
end Go.Proofs.YtfldlfladcfggaaGreat
