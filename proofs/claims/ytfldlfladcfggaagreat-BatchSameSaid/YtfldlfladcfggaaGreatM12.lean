/- Lemmas of the walks, merged and pressed by press.py. Conditions: those of each theorem. -/
import Derived.Test.YtfldlfladcfggaaGreatM11
set_option maxRecDepth 100000
set_option maxHeartbeats 64000000
set_option linter.all false
namespace Go.Proofs.YtfldlfladcfggaaGreat
section
open Go.RowKit
def zdf (c:UInt8):PO:=⟨4,1,0,0,0,0, [c], []⟩
theorem zsX {w:World} {g:Nat} (c:UInt8) {z:Int} (hz:z=(c.toNat:Int)) (h:w.heap[g]? =some (.cells #[.int .u8 z] 5 (0,0))):Bs w (some ⟨g,0,none⟩) 1 [c]:=
 Is.mk' rfl fun i hi=> by
  obtain rfl:i=0:=by omega
  subst hz;simp [World.cell?,h]
theorem zsu (w:World):Ops (((w.alloc (.cells #[.int .u8 1] 5)).alloc (.cells #[.int .u8 2] 5)).alloc (.cells #[.int .i64 4, .int .i64 1, .int .i64 0, .int .i64 0, .int .i64 0, .int .u64 0, .slice (some ⟨w.heap.size,0,none⟩) 1 1, .slice none 0 0, .int .i64 4, .int .i64 1, .int .i64 0, .int .i64 0, .int .i64 0, .int .u64 0, .slice (some ⟨w.heap.size+1,0,none⟩) 1 1, .slice none 0 0] 28))
 (some ⟨w.heap.size+1+1,0,none⟩) 2 [zdf 1,zdf 2]:=by
 have h1:(((w.alloc (.cells #[.int .u8 1] 5)).alloc (.cells #[.int .u8 2] 5)).alloc (.cells #[.int .i64 4, .int .i64 1, .int .i64 0, .int .i64 0, .int .i64 0, .int .u64 0, .slice (some ⟨w.heap.size,0,none⟩) 1 1, .slice none 0 0, .int .i64 4, .int .i64 1, .int .i64 0, .int .i64 0, .int .i64 0, .int .u64 0, .slice (some ⟨w.heap.size+1,0,none⟩) 1 1, .slice none 0 0] 28)).heap[w.heap.size]? =some (.cells #[.int .u8 1] 5 (0,0)):=by
  rw [Below.heap_alloc _ _ _ (by simp;omega),Below.heap_alloc _ _ _ (by simp)]
  exact heap_alloc_new w _
 have h2:(((w.alloc (.cells #[.int .u8 1] 5)).alloc (.cells #[.int .u8 2] 5)).alloc (.cells #[.int .i64 4, .int .i64 1, .int .i64 0, .int .i64 0, .int .i64 0, .int .u64 0, .slice (some ⟨w.heap.size,0,none⟩) 1 1, .slice none 0 0, .int .i64 4, .int .i64 1, .int .i64 0, .int .i64 0, .int .i64 0, .int .u64 0, .slice (some ⟨w.heap.size+1,0,none⟩) 1 1, .slice none 0 0] 28)).heap[w.heap.size+1]? =some (.cells #[.int .u8 2] 5 (0,0)):=by
  rw [Below.heap_alloc _ _ _ (by simp)]
  have:=heap_alloc_new (w.alloc (.cells #[.int .u8 1] 5)) (.cells #[.int .u8 2] 5)
  simpa using this
 have h3:=heap_alloc_new ((w.alloc (.cells #[.int .u8 1] 5)).alloc (.cells #[.int .u8 2] 5)) (.cells #[.int .i64 4, .int .i64 1, .int .i64 0, .int .i64 0, .int .i64 0, .int .u64 0, .slice (some ⟨w.heap.size,0,none⟩) 1 1, .slice none 0 0, .int .i64 4, .int .i64 1, .int .i64 0, .int .i64 0, .int .i64 0, .int .u64 0, .slice (some ⟨w.heap.size+1,0,none⟩) 1 1, .slice none 0 0] 28);rw [show ((w.alloc (.cells #[.int .u8 1] 5)).alloc (.cells #[.int .u8 2] 5)).heap.size=w.heap.size+1+1 by simp] at h3
 generalize ((w.alloc (.cells #[.int .u8 1] 5)).alloc (.cells #[.int .u8 2] 5)).alloc (.cells #[.int .i64 4, .int .i64 1, .int .i64 0, .int .i64 0, .int .i64 0, .int .u64 0, .slice (some ⟨w.heap.size,0,none⟩) 1 1, .slice none 0 0, .int .i64 4, .int .i64 1, .int .i64 0, .int .i64 0, .int .i64 0, .int .u64 0, .slice (some ⟨w.heap.size+1,0,none⟩) 1 1, .slice none 0 0] 28)=W at *;refine ⟨rfl,fun i o ho=> ?_⟩;have De:=(zi ho).1
 match i,De with
 | 0,_=>
   simp at ho;subst ho;refine ⟨w.heap.size+1+1,0, .slice (some ⟨w.heap.size,0,none⟩) 1 1, .slice none 0 0,rfl,fun j x hx=> ?_,_,_,_,_,rfl,rfl,zsX 1 rfl h1,⟨rfl,fun i x h=> by simp [zdf] at h⟩⟩
   have hj:j < 8:=(zi hx).1
   match j,hj with
   | 0,_ | 1,_ | 2,_ | 3,_ | 4,_ | 5,_ | 6,_ | 7,_=> simp [zf4,zdf] at hx;subst hx;simp [World.cell?,h3]
 | 1,_=>
   simp at ho;subst ho;refine ⟨w.heap.size+1+1,0, .slice (some ⟨w.heap.size+1,0,none⟩) 1 1, .slice none 0 0,rfl,fun j x hx=> ?_,_,_,_,_,rfl,rfl,zsX 2 rfl h2,⟨rfl,fun i x h=> by simp [zdf] at h⟩⟩
   have hj:j < 8:=(zi hx).1
   match j,hj with
   | 0,_ | 1,_ | 2,_ | 3,_ | 4,_ | 5,_ | 6,_ | 7,_=> simp [zf4,zdf] at hx;subst hx;simp [World.cell?,h3]
theorem zro (w:World):Calls Tryz.prog 13 #[] w fun e w'=> e= .returned (.bool true)∧Below w.heap.size w w':=by
 have Ig:=zsu w;have AE:=zrx (some ⟨w.heap.size+1+1,0,none⟩) 2 2 [zdf 1,zdf 2] _ Ig (by omega) (fun o ho=> by
  simp only [List.mem_cons,List.not_mem_nil,or_false] at ho;rcases ho with rfl | rfl <;> simp [zdf])
 have e1:(zdf 1).idle [zdf 2]=true:=by kernel_rfl
 have e2:(zdf 2).idle []=false:=by decide
 have hk:z6 [zdf 1,zdf 2]= [zdf 2]:=by
  have h1:z6 [zdf 1,zdf 2]=if (zdf 1).idle [zdf 2] then z6 [zdf 2] else zdf 1::z6 [zdf 2]:=rfl;have h2:z6 [zdf 2]=if (zdf 2).idle [] then [] else [zdf 2]:=rfl;rw [h1,e1,if_pos rfl,h2,e2,if_neg (by decide)]
 rw [hk] at AE;have BI:Below w.heap.size w (((w.alloc (.cells #[.int .u8 1] 5)).alloc (.cells #[.int .u8 2] 5)).alloc (.cells #[.int .i64 4, .int .i64 1, .int .i64 0, .int .i64 0, .int .i64 0, .int .u64 0, .slice (some ⟨w.heap.size,0,none⟩) 1 1, .slice none 0 0, .int .i64 4, .int .i64 1, .int .i64 0, .int .i64 0, .int .i64 0, .int .u64 0, .slice (some ⟨w.heap.size+1,0,none⟩) 1 1, .slice none 0 0] 28)):=((zr.alloc zl _).alloc (by simp) _).alloc (by simp;omega) _
 have WH:=zh AE;clear Ig AE hk;go_enter Tryz.func13,Tryz.ntmps13;go_wp2_with fail;refine WH.out.mono ?_;rintro e w2 ⟨v,rfl,ho,Ae⟩;obtain ⟨a,cap,rfl,Eq,-⟩:=ho.ops;obtain ⟨b,p,dv,mv,ha,hc,da,dc,ma,mc,rfl,rfl,Au,-⟩:=Eq.2 0 (zdf 2) rfl;subst ha;have c6:=hc 6 _ rfl;obtain ⟨b',o',ch,SJ,Kr,Bn,-⟩:=Bs.cell Au 0 (by decide)
 subst SJ;have ech:ch=2:=by simpa [zdf] using Kr.symm
 subst ech;simp only [Nat.zero_mul,Nat.add_zero] at c6 Bn;have Gz:=BI.trans (Ae.mono BI.size);clear ho Eq hc Au Kr WH;go_wp2_with fail;go_ret;exact ⟨rfl,Gz⟩
end
end Go.Proofs.YtfldlfladcfggaaGreat
