/- Lemmas of the walks, merged and pressed by press.py. Conditions: those of each theorem. -/
import Derived.Test.YtfldlfladcfggaaGreatM14
import Derived.BigQuiet
import Derived.Test.YtfldlfladcfggaaGreatM3
set_option maxRecDepth 100000
set_option maxHeartbeats 64000000
set_option linter.all false
namespace Go.Proofs.YtfldlfladcfggaaGreat
section
open Go.RowKit
theorem zrJ {w:World} {a a':Option Addr} {n c c':Nat} {l:List UInt8} (h:Bs w a n l) (h':Bs w a' n l) (hn:n≤1000000):
 Calls Tryz.prog 11 #[.slice a n c, .slice a' n c'] w fun e w'=> e= .returned (.bool true)∧Below w.heap.size w w':=by
 have hl:=h.length;have z0:((n:Int) !=(n:Int))=false:=by simp
 have H:=zh h;have H':=zh h';clear h h';go_enter Tryz.func11,Tryz.ntmps11;go_wp2_with fail
 go_loopw [13] (fun u wr=> ∃(i q:Nat),i≤n∧u= .int .i64 i∧wr=w.drewN q) (fun u _=> n - (intOf u).toNat)
 case atStart=> exact ⟨0,0,by omega,rfl,rfl⟩
 case round=>
  obtain ⟨i,q,hi,rfl,rfl⟩:=hrel
  by_cases hlt:i < n
  ·have Bb:(i:Int) < (n:Int):=by omega
   have AD:(0:Int)≤(i:Int):=by omega
   obtain ⟨b,o,x,rfl,hx,hc,-⟩:=H.out.cell i hlt;obtain ⟨b',o',y,rfl,hy,hd,-⟩:=H'.out.cell i hlt;obtain rfl:x=y:=Option.some.inj (hx.symm.trans hy);have hq:((x.toNat:Int) !=(x.toNat:Int))=false:=by simp
   clear hx hy;go_wp2_with fail
   go_quiet (fail)
   go_wp2_with fail
   go_roundw
   case rel=> exact ⟨i+1,_,by omega,by go_num,rfl⟩
   case measure=> simp [intOf];omega
  ·obtain rfl:n=i:=by omega
   go_wp2_with fail;go_ret;exact ⟨rfl,below_drewN zr q⟩
theorem zrn {w:World} {pt n:Nat} {r:Option Nat} (h:zaw w pt r n):
 Calls Tryz.prog 12 #[.pointer (some ⟨pt,0,none⟩)] w fun e w'=> e= .returned (.int .i64 (n:Int))∧w'=w:=by
 have c1:=cell_of_row w _ 1 _ _ _ h;clear h;go_enter Tryz.func12,Tryz.ntmps12;go_wp2_with fail;go_ret;exact ⟨rfl,rfl⟩
end
end Go.Proofs.YtfldlfladcfggaaGreat
