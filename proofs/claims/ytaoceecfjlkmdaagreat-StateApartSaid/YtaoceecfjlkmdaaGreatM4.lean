/- Lemmas of the walks, merged and pressed by press.py. Conditions: those of each theorem. -/
import Derived.BigQuiet
import Derived.Deep.RegionLaw
import Derived.Test.YtaoceecfjlkmdaaGreatM3
import Derived.Laws.Rows
import Derived.Test.YtaoceecfjlkmdaaGreatM2
set_option maxRecDepth 100000
set_option maxHeartbeats 64000000
set_option linter.all false
namespace Go.Proofs.YtaoceecfjlkmdaaGreat
open Tryz
variable {F F':List Nat} {B c d g i j k n p pt q x:Nat} {S:Nat→Prop} {r:Option Nat} {P:Program} {t:TypeId} {mv v0 v1 x0 x1:Value} {W w w':World}
section
open Go.RowKit
theorem mLen: (prog.info? 243).map (fun i => (i.methods.find? (fun x => x.name == "Len")).map fun m => (m.path.toList, m.func)) = some (some ([], some (251, false))) := by kernel_rfl
theorem mLess: (prog.info? 243).map (fun i => (i.methods.find? (fun x => x.name == "Less")).map fun m => (m.path.toList, m.func)) = some (some ([], some (252, false))) := by kernel_rfl
theorem mSwap: (prog.info? 243).map (fun i => (i.methods.find? (fun x => x.name == "Swap")).map fun m => (m.path.toList, m.func)) = some (some ([], some (253, false))) := by kernel_rfl
theorem zpP (v:Array Value) (w:World):(callFunc 251 v).run prog w= .ok (.enter 251 v) w:=ue
theorem zoI (v:Array Value) (w:World):(callFunc 252 v).run prog w= .ok (.enter 252 v) w:=ue
theorem zmo (v:Array Value) (w:World):(callFunc 253 v).run prog w= .ok (.enter 253 v) w:=ue
theorem zpQ (v:Array Value) (w:World):(callFunc 255 v).run prog w= .ok (.enter 255 v) w:=ue
theorem fnPop (v:Array Value) (w:World):(callFunc 254 v).run prog w= .ok (.enter 254 v) w:=ue
theorem zmQ {name:String} {g:FuncId × Bool} (h:(P.info? t).map (fun i=> (i.methods.find? (fun x=> x.name==name)).map fun m=> (m.path.toList,m.func))=some (some ([],some g))):
 ∃i,P.info? t=some i/\∃m,i.methods.find? (fun x=> x.name==name)=some m/\m.path.toList= []/\m.func=some g:=by
 cases hi:P.info? t with
 | none=> rw [hi] at h;cases h
 | some i=>
   rw [hi] at h;simp only [Option.map_some,Option.some.injEq] at h
   cases hm:i.methods.find? (fun x=> x.name==name) with
   | none=> rw [hm] at h;cases h
   | some m=>
     rw [hm] at h;simp only [Option.map_some,Option.some.injEq,Prod.mk.injEq] at h;exact ⟨i,rfl,m,hm,h.1,h.2⟩
theorem zpY (P:Program) (t:TypeId) (a:Addr) (x y:ByteArray) (w:World):(Builtin.ssaWrapNilChk_ #[t] t #[π (some a), .string x, .string y]).run P w= .ok (π (some a)) w:=rfl
theorem zcf {P:Program} {t e:TypeId} {name:String} {f:FuncId} (h:(P.info? t).map (fun i=> (i.methods.find? (fun x=> x.name==name)).map fun m=> (m.path.toList,m.func))=some (some ([],some (f,false))))
 (ht:P.underlying t=some (.pointer e)) (he:∀w,(isAgg e).run P w= .ok false w) (b:Nat) (v:Value) (w:World) (k:Nat) (hc:w.cell? ⟨b,0,none⟩=some v):
 (method (k+1) t (.pointer (some ⟨b,0,none⟩)) name).run P w= .ok (f,v) w:=by
 obtain ⟨i,hi,m,hm,hp,hg⟩:=zmQ h;have YQ:m.path=#[]:=by rw [<- Array.toList_inj];exact hp
 unfold method;simp [run_typeInfo w hi,hm,YQ,hg,follow,receiverAt,run_underlying ht,Place.get,zpY,loadVar,he,asAddr,Result.andThen,strVal,hc]
theorem zgX (w:World):(isAgg 210).run prog w= .ok false w:=ue
theorem zmC (b : Nat) (v : Value) (w : World) (hc : w ⟨b, 0, none⟩ = some v) : (method 455 243 (π (some ⟨b, 0, none⟩)) "Len").run prog w = .ok (251, v) w := zcf mLen Tryz.underlying243 zgX b v w 454 hc
theorem zgW (b : Nat) (v : Value) (w : World) (hc : w ⟨b, 0, none⟩ = some v) : (method 455 243 (π (some ⟨b, 0, none⟩)) "Less").run prog w = .ok (252, v) w := zcf mLess Tryz.underlying243 zgX b v w 454 hc
theorem zdO (b : Nat) (v : Value) (w : World) (hc : w ⟨b, 0, none⟩ = some v) : (method 455 243 (π (some ⟨b, 0, none⟩)) "Swap").run prog w = .ok (253, v) w := zcf mSwap Tryz.underlying243 zgX b v w 454 hc
theorem zn4 (b : Nat) (w : World) : (method 455 243 (π (some ⟨b, 0, none⟩)) "Push").run prog w = .ok (255,π (some ⟨b, 0, none⟩)) w := by kernel_rfl
theorem zpe (b : Nat) (w : World) : (method 455 243 (π (some ⟨b, 0, none⟩)) "Pop").run prog w = .ok (254,π (some ⟨b, 0, none⟩)) w := by kernel_rfl
theorem zl0 (x:Int) (w:World):(Instr.typeAssert (.iface 73 (ν x)) 20 73 false).run prog w= .ok (ν x) w:=ue
theorem infoU:(prog.info? 73).map (fun i=> (i.zero,i.size,i.bytes))=some (some (ν 0),1,4):=ue
def zaI (w:World) (p g c:Nat) (mv:Value) (F:List Nat):Prop:=w.heap[p]? =some (.cells #[σ (some ↑g) F.length c,mv] 212)/\w.ownsRow 0 73 1 (σ (some ↑g) F.length c) F.length (F.map uV)
theorem zaI.at (h:zaI w p g c mv F)   (hi:F[i]? =some x):w (g i ())=some (ν x):=by
 have:=h.2.cells (g:=g) rfl i (uV x) (by rw [List.getElem?_map,hi];rfl)
 rw [zdt,Nat.zero_add] at this;exact this
theorem zaI.cell (h:zaI w p g c mv F):w p=some (σ (some ↑g) F.length c):=by simp [World.cell?,h.1]
theorem zaI.ne (h:zaI w p g c mv F):p≠g:=by
 rintro rfl;rcases h.2.2 with ⟨e,_⟩ | ⟨g',cap,cur,e,_,hh,_⟩
 ·cases e
 cases e
 rw [h.1] at hh
 cases hh
theorem zaI.glt (h:zaI w p g c mv F):g < ↑w:=by
 rcases h.2.2 with ⟨e,_⟩ | ⟨g',cap,cur,e,_,hh,_⟩
 ·cases e
 cases e
 exact (zg hh).1
theorem zq (w:World) (a:Addr) (x:Value):w.grownBy (w.setCell a x) (some a.block):=⟨rfl,rfl,rfl,uh,fun i _ hi=> heap_setCell_other _ _ _ _ (fun e=> hi uJ)⟩
theorem zaI.swap (h:zaI w p g c mv F) {y:Nat} (hi:F[i]? =some x) (hj:F[j]? =some y):
 zaI ((w.setCell (g i ()) (ν y)).setCell (g j ()) (ν x)) p g c mv ((F.set i y).set j x)/\((F.set i y).set j x).Perm F/\w.grownBy ((w.setCell (g i ()) (ν y)).setCell (g j ()) (ν x)) (some g):=by
 have hg:=(zq w (g i ()) (ν y)).trans (zq (w.setCell (g i ()) (ν y)) (g j ()) (ν x));obtain ⟨Bb,rfl⟩:=zi hi;obtain ⟨EB,rfl⟩:=zi hj;refine ⟨⟨?_, ?_⟩,List.set_set_perm Bb EB,hg⟩
 ·rw [hg.block p (zg h.1).1 (fun e=> h.ne (Option.some.inj e)),List.length_set,List.length_set];exact h.1
 have h1:=((h.2.stored i (ν (F[j]))).1.stored j (ν (F[i]))).1;rw [List.length_set,List.length_set,List.map_set,List.map_set];exact h1
theorem zbP (h:zaI w p g c mv F) (n i j:Nat) (hn:n=F.length) (hi:i < n) (hj:j < n) (_hk:n<=1000000):
 χ 252 #[σ (some ↑g) n c,↑i,↑j] w fun e w'=> (∃b,e=ρ (.bool b))/\∃q,w'=w.drewN q:=by
 have c0:=h.at (ze (show i < F.length by omega))
 have c1:=h.at (ze (show j < F.length by omega))
 generalize F[i]=x at c0;generalize F[j]=y at c1;have AD:(0:Int)<=(i:Int):=ud;have Bb:(i:Int) < (n:Int):=ud;have MA:(0:Int)<=(j:Int):=ud;have EB:(j:Int) < (n:Int):=ud
 go_in;go_wp2_with fail
 go_quiet (fail)
 all_goals
  go_wp2;go_ret;exact ⟨⟨_,rfl⟩,_,rfl⟩
theorem zgw (a:Option Addr) (n c:Nat) (w:World):χ 251 #[σ a n c] w fun e w'=> e=ρ ↑n/\w'=w:=by
 go_in;go_wp2;go_ret;exact ⟨rfl,rfl⟩
theorem zbQ (h:zaI w p g c mv F) (n i j:Nat) (hn:n=F.length) (hi:i < n) (hj:j < n) (_hk:n<=1000000):
 χ 253 #[σ (some ↑g) n c,↑i,↑j] w fun e w'=> e=ρ (.tuple #[])/\∃F',F'.Perm F/\zaI w' p g c mv F'/\w.grownBy w' (some g):=by
 obtain ⟨x,hx⟩:∃x,F[i]? =some x:=⟨_,ze (show i < F.length by omega)⟩
 obtain ⟨y,hy⟩:∃y,F[j]? =some y:=⟨_,ze (show j < F.length by omega)⟩
 have c0:=h.at hx;have c1:=h.at hy;have AD:(0:Int)<=(i:Int):=ud;have Bb:(i:Int) < (n:Int):=ud;have MA:(0:Int)<=(j:Int):=ud;have EB:(j:Int) < (n:Int):=ud;have HF:=zh (h.swap hx hy);obtain ⟨-,Kt⟩:=h.2;rcases Kt with ⟨e,_⟩ | ⟨g',cap,cur,e,_,hh,Ge,Ce,Fo,_⟩
 ·cases e
 cases e
 have f0:w.frozen? (g i ())=false:=by simp [World.frozen?,hh]
 have f1:w.frozen? (g j ())=false:=by simp [World.frozen?,hh]
 have f2:(w.setCell (g i ()) (ν y)).frozen? (g j ())=false:=(World.frozen?_setCell _ _ _ _).trans f1;have c2:(w.setCell (g i ()) (ν y)) (g j ())=some (ν y):=by
  have:=(h.2.stored i (ν y)).1.cells (g:=g) rfl j (uV y) (by
   rw [List.getElem?_set]
   split
   ·rw [if_pos (by rw [List.length_map];omega)];rfl
   rw [List.getElem?_map,hy];rfl)
  rw [zdt,Nat.zero_add] at this;exact this
 clear h hn hx hy hh;go_in;go_wp2_with fail
 go_region_law fail
 all_goals
  go_wp2;go_end0;exact ⟨rfl,_,HF.out.2.1,HF.out.1,⟨HF.out.2.2.os,HF.out.2.2.tape,HF.out.2.2.output,HF.out.2.2.size,HF.out.2.2.block⟩⟩
theorem zaI.drewN (h:zaI w p g c mv F) (q:Nat):zaI (w.drewN q) p g c mv F:=by
 induction q generalizing w with
 | zero=> exact h
 | succ q ih=> exact ih h
theorem zbI (h:w.grownBy w' r) (q:Nat):w.grownBy (w'.drewN q) r:=by
 induction q with
 | zero=> exact h
 | succ q ih=> exact ⟨ih.os,ih.tape,ih.output,ih.size,ih.block⟩
theorem zdU (h:F'.Perm F):F'.length=F.length:=h.length_eq
theorem zp1 (h:zaI w p g c mv F) (k:Nat) (hk:k < F.length) (hF:F.length<=100000):
 χ 213 #[.iface 243 (π (some ↑p)),↑k] w fun e w'=> e=ρ (.tuple #[])/\∃F',F'.Perm F/\zaI w' p g c mv F'/\w.grownBy w' (some g):=by
 have HH:=zh h;have hf:=zoI;have kw:=zmo;go_in;go_wp2_with fail
 go_loopw [1] (fun u1 wr=> ∃(j:Nat) (F':List Nat),u1= ι j/\j < F.length/\F'.Perm F/\zaI wr p g c mv F'/\w.grownBy wr (some g)) (fun u1 _=> (intOf u1).toNat)
 case atStart=> exact ⟨k,F,rfl,hk,List.Perm.refl _,HH.out,World.grownBy.refl _ _⟩
 case round=>
  obtain ⟨j,F',rfl,hj,hP,hW,hG⟩:=hrel;have Ac:=zdU hP;have HW:=zh hW;have HG:=zh hG;have HP:=zh hP;have hc:=hW.cell;rw [Ac] at hc;have hv:=zgW p _ wr hc
  by_cases MA:j=0
  ·subst MA;go_wp2;go_end0;exact ⟨rfl,F',HP.out,HW.out,HG.out⟩
  have hq:(j - 1) / 2 < j:=ud;have HL:=zh (zbP hW F.length j ((j - 1) / 2) Ac.symm hj ud ud);have s1:IntKind.i64.wrap ((j:Int) - 1)=(j:Int) - 1:=zw _ ud;have s2:((j:Int) - 1).tdiv 2=(((j - 1) / 2:Nat):Int):=by
       rw [show (j:Int) - 1=((j - 1:Nat):Int) by omega]
       rfl
  have s3:((((j - 1) / 2:Nat):Int)==(j:Int))=false:=by rw [beq_eq_false_iff_ne];omega
  have s4:IntKind.i64.wrap (((j - 1) / 2:Nat):Int)=(((j - 1) / 2:Nat):Int):=zw _ ud;generalize (j - 1) / 2=q at *;generalize F.length=n at *;go_wp2_with fail;refine HL.out.mono ?_;rintro e w2 ⟨⟨b,rfl⟩,q2,rfl⟩;have Hn:=zh (HW.out.drewN q2);have Ff:=zh (zbI HG.out q2);have Bd:=Hn.out.cell;rw [Ac] at Bd;have Ef:=zdO p _ _ Bd
  cases b
  ·go_wp2;go_end0;exact ⟨rfl,F',HP.out,Hn.out,Ff.out⟩
  have HS:=zh (zbQ Hn.out n q j Ac.symm ud ud ud);go_wp2_with fail;refine HS.out.mono ?_;rintro e w3 ⟨rfl,F2,Hr,Fi,AM⟩;have HR:=zh (zn (Hr.trans HP.out) (zn Fi (Ff.out.trans AM)));go_wp2_with fail
  go_roundw
  case rel=> exact ⟨q,F2,rfl,ud,HR.out.1,HR.out.2.1,HR.out.2.2⟩
  case measure=> simp [intOf];omega
end
section
open Go.RowKit
structure zZ (w:World) (q:Nat) (l:List (Nat × Nat)):Prop where
 obj:∃cs:Array Value,w.heap[q]? =some (.cells cs 279 (0,0))/\cs.size=34/\cs[32]? =some (ι l.length)/\cs[33]? =some (ι 16)/\
  ∀i x,l[i]? =some x->cs[i * 2]? =some (zv x.1)/\cs[i * 2+1]? =some (ι x.2)
 len:l.length<=16
theorem zZ.lt {l:List (Nat × Nat)} (h:zZ w q l):q < ↑w:=by
 obtain ⟨cs,e,-⟩:=h.obj;exact (zg e).1
theorem zZ.heap {l:List (Nat × Nat)} (h:zZ w q l) (hq:w'.heap[q]? =w.heap[q]?):zZ w' q l:=by
 obtain ⟨cs,e,r⟩:=h.obj;exact ⟨⟨cs,by rw [hq];exact e,r⟩,h.len⟩
theorem zZ.reads {l:List (Nat × Nat)} (h:zZ w q l):w (q 32 ())=some ↑l.length/\w (q 33 ())=some (ι 16)/\(∀j,w.frozen? (q j ())=false)/\
 ∀i x,l[i]? =some x->w (q (i * 2) ())=some (zv x.1)/\w (q (i * 2+1) ())=some ↑x.2:=by
 obtain ⟨cs,e,-,e1,e2,e3⟩:=h.obj;have hc:∀j,w (q j ())=cs[j]? :=fun j=> by simp [World.cell?,e]
 exact ⟨by rw [hc,e1],by rw [hc,e2],fun j=> by simp [World.frozen?,e],fun i x hx=> by rw [hc,hc];exact e3 i x hx⟩
theorem zZ.has {l:List (Nat × Nat)} (h:zZ w q l) (j:Nat) (hj:j < 34):∃u,w (q j ())=some u:=by
 obtain ⟨cs,e,hs,-⟩:=h.obj;have hc:w (q j ())=cs[j]? :=by simp [World.cell?,e]
 exact ⟨cs[j]'ud,by rw [hc];exact Array.getElem?_eq_getElem _⟩
theorem zZ.put {l:List (Nat × Nat)} (h:zZ w q l) (hl:l.length < 16) (p i:Nat):
 zZ (((w.setCell (q (l.length * 2) ()) (zv p)).setCell (q (l.length * 2+1) ()) ↑i).setCell (q 32 ()) (ι ((l.length:Int)+1))) q (l++ [(p,i)])/\
  w.grownBy (((w.setCell (q (l.length * 2) ()) (zv p)).setCell (q (l.length * 2+1) ()) ↑i).setCell (q 32 ()) (ι ((l.length:Int)+1))) (some q):=by
 obtain ⟨cs,e,hs,e1,e2,e3⟩:=h.obj;refine ⟨⟨⟨_,heap_setCell_same _ q 32 _ _ _ (heap_setCell_same _ q _ _ _ _ (heap_setCell_same w q _ cs _ _ e)),by simp [hs], ?_, ?_,fun j x hx=> ?_⟩,uo⟩,rfl,rfl,rfl,uh,fun k _ hk=> ?_⟩
 ·rw [Array.getElem?_setIfInBounds_self_of_lt (by simp [hs])];simp
 ·rw [Array.getElem?_setIfInBounds_ne ud,Array.getElem?_setIfInBounds_ne ud,Array.getElem?_setIfInBounds_ne ud];exact e2
 ·have hj:j < (l++ [(p,i)]).length:=(zi hx).1;simp at hj
  by_cases FT:j < l.length
  ·rw [List.getElem?_append_left FT] at hx;obtain ⟨h1,h2⟩:=e3 j x hx;refine ⟨?_, ?_⟩
   ·rw [Array.getElem?_setIfInBounds_ne (show 32≠j * 2 by omega),Array.getElem?_setIfInBounds_ne (show l.length * 2+1≠j * 2 by omega),Array.getElem?_setIfInBounds_ne (show l.length * 2≠j * 2 by omega)]
    exact h1
   rw [Array.getElem?_setIfInBounds_ne (show 32≠j * 2+1 by omega),Array.getElem?_setIfInBounds_ne (show l.length * 2+1≠j * 2+1 by omega),Array.getElem?_setIfInBounds_ne (show l.length * 2≠j * 2+1 by omega)]
   exact h2
  have:j=l.length:=ud;subst this;rw [List.getElem?_append_right zl] at hx;simp at hx;subst hx;refine ⟨?_, ?_⟩
  ·rw [Array.getElem?_setIfInBounds_ne (show 32≠l.length * 2 by omega),Array.getElem?_setIfInBounds_ne (show l.length * 2+1≠l.length * 2 by omega),Array.getElem?_setIfInBounds_self_of_lt ud]
  rw [Array.getElem?_setIfInBounds_ne (show 32≠l.length * 2+1 by omega),Array.getElem?_setIfInBounds_self_of_lt uz]
 have FU:k≠q:=fun e=> hk uJ;rw [heap_setCell_other _ _ k _ FU,heap_setCell_other _ _ k _ FU,heap_setCell_other _ _ k _ FU]
theorem zeF (w:World):
 χ 128 #[ι 16] w fun e w'=> e=ρ (zv ↑w)/\zZ w' ↑w []/\θ w w w':=by
 go_in;go_wp2;go_ret;refine ⟨rfl,⟨⟨_,heap_alloc_new w _, ?_, ?_, ?_, ?_⟩, ?_⟩,zr.alloc zl _⟩
 ·rfl
 ·rfl
 ·rfl
 ·intro i x hx;simp at hx
 simp
theorem zhg {l:List (Nat × Nat)} (h:zZ w q l) (hl:l.length < 16) (p i:Nat):
 χ 130 #[zv q, .agg #[zv p,↑i]] w fun e w'=> e=ρ (.bool true)/\zZ w' q (l++ [(p,i)])/\w.grownBy w' (some q):=by
 obtain ⟨c32,c33,cf,-⟩:=h.reads;have hlt:=h.lt;have d32:=zu c32 (.cells #[zv p,↑i] 223);have d33:=zu c33 (.cells #[zv p,↑i] 223);have x0:(w.alloc (.cells #[zv p,↑i] 223)) w=some (zv p):=uh;have x1:(w.alloc (.cells #[zv p,↑i] 223)) ⟨↑w,1,none⟩=some ↑i:=uh;have hf:∀j,(w.alloc (.cells #[zv p,↑i] 223)).frozen? (q j ())=false:=fun j=> by
  have:=(h.heap (w':=w.alloc (.cells #[zv p,↑i] 223)) (Below.heap_alloc _ _ _ hlt)).reads.2.2.1 j;exact this
 have E9:(l.length:Int) < 16:=ud;have Aj:((l.length:Int)==16)=false:=by rw [beq_eq_false_iff_ne];omega
 unfold zv at *;generalize Ld:w.alloc (.cells #[π (some ↑p),↑i] 223)=wa at *;have My:zZ wa q l:=h.heap uax;have DS:θ w w wa:=by rw [<- Ld];exact zr.alloc zl _
 obtain ⟨u0,y0⟩:=My.has (l.length * 2) ud;obtain ⟨u1,y1⟩:=My.has (l.length * 2+1) ud;have Ab:IntKind.i64.wrap ((l.length:Int)+1)=(l.length:Int)+1:=zw _ ud;have Cc:=My.put hl p i;unfold zv at Cc;have HP:=zh Cc;have XI:l.length * 2≠32:=ud;have XJ:l.length * 2+1≠32:=ud
 go_in;go_wp2_with fail
 go_region
 all_goals
  go_wp2_with fail
  go_region
  all_goals
   go_wp2;go_ret;refine ⟨rfl,HP.out.1.heap rfl, ?_⟩;have hg:=HP.out.2;exact ⟨hg.os.trans DS.os,hg.tape.trans DS.tape,hg.output.trans DS.output,zs DS.size hg.size,fun k hk Aj=> (hg.block k (zt hk DS.size) Aj).trans (DS.block k hk)⟩
theorem zZ.pre {l:List (Nat × Nat)} {x:Nat × Nat} (h:zZ w q (l++ [x])) (o1 o2:Obj):
 ((((w.setCell (q 32 ()) ↑l.length).alloc o1).alloc o2) (q 32 ())=some ↑l.length/\(((w.setCell (q 32 ()) ↑l.length).alloc o1).alloc o2) (q (l.length * 2) ())=some (zv x.1)/\
   (((w.setCell (q 32 ()) ↑l.length).alloc o1).alloc o2) (q (l.length * 2+1) ())=some ↑x.2)/\∀j,(((w.setCell (q 32 ()) ↑l.length).alloc o1).alloc o2).frozen? (q j ())=false:=by
 obtain ⟨cs,e,hs,e1,e2,e3⟩:=h.obj;have hl:l.length < 16:=by have:=h.len;simp at this;omega
 have hq:=h.lt;have hx:(l++ [x])[l.length]? =some x:=uL;obtain ⟨h1,h2⟩:=e3 l.length x hx;have hh:(((w.setCell (q 32 ()) ↑l.length).alloc o1).alloc o2).heap[q]? =some (.cells (cs.setIfInBounds 32 ↑l.length) 279 (0,0)):=by
  rw [Below.heap_alloc _ _ _ uo,Below.heap_alloc _ _ _ ubk];exact heap_setCell_same w q 32 cs _ _ e
 have hc:∀j,(((w.setCell (q 32 ()) ↑l.length).alloc o1).alloc o2) (q j ())=(cs.setIfInBounds 32 ↑l.length)[j]? :=fun j=> by simp [World.cell?,hh]
 refine ⟨⟨?_, ?_, ?_⟩,fun j=> by simp [World.frozen?,hh]⟩
 ·rw [hc,Array.getElem?_setIfInBounds_self_of_lt ud]
 ·rw [hc,Array.getElem?_setIfInBounds_ne ud];exact h1
 rw [hc,Array.getElem?_setIfInBounds_ne ud];exact h2
theorem zZ.post {l:List (Nat × Nat)} {x:Nat × Nat} (h:zZ w q (l++ [x])) (o1 o2:Obj):
 ∃ cs5:Array Value,(((w.setCell (q 32 ()) ↑l.length).alloc o1).alloc o2).heap[q]? =some (.cells cs5 279 (0,0))/\cs5.size=34/\
   (∀W':World,W'.heap[q]? =some (.cells cs5 279 (0,0))->W' (q 32 ())=some ↑l.length/\(∃u,W' (q (l.length * 2) ())=some u)/\(∃u,W' (q (l.length * 2+1) ())=some u)/\∀j,W'.frozen? (q j ())=false)/\
   ∀W':World,W'.heap[q]? =some (.cells ((cs5.setIfInBounds (l.length * 2) (π none)).setIfInBounds (l.length * 2+1) (ι 0)) 279 (0,0))->zZ W' q l:=by
 obtain ⟨cs,e,hs,e1,e2,e3⟩:=h.obj;have hl:l.length < 16:=by have:=h.len;simp at this;omega
 have hq:=h.lt;refine ⟨cs.setIfInBounds 32 ↑l.length, ?_,by simp [hs],fun W' Mb=> ?_,fun W' Mb=> ⟨⟨_,Mb,by simp [hs], ?_, ?_,fun j y hy=> ?_⟩,ud⟩⟩
 ·rw [Below.heap_alloc _ _ _ uo,Below.heap_alloc _ _ _ ubk];exact heap_setCell_same w q 32 cs _ _ e
 ·have hc:∀j,W' (q j ())=(cs.setIfInBounds 32 ↑l.length)[j]? :=fun j=> by simp [World.cell?,Mb]
  refine ⟨?_, ?_, ?_,fun j=> by simp [World.frozen?,Mb]⟩
  ·rw [hc,Array.getElem?_setIfInBounds_self_of_lt ud]
  ·exact ⟨_,(hc _).trans (Array.getElem?_eq_getElem uz)⟩
  exact ⟨_,(hc _).trans (Array.getElem?_eq_getElem uz)⟩
 ·rw [Array.getElem?_setIfInBounds_ne ud,Array.getElem?_setIfInBounds_ne ud,Array.getElem?_setIfInBounds_self_of_lt ud]
 ·rw [Array.getElem?_setIfInBounds_ne ud,Array.getElem?_setIfInBounds_ne ud,Array.getElem?_setIfInBounds_ne ud];exact e2
 have hj:j < l.length:=(zi hy).1;obtain ⟨h1,h2⟩:=e3 j y (by rw [List.getElem?_append_left hj];exact hy)
 refine ⟨?_, ?_⟩
 ·rw [Array.getElem?_setIfInBounds_ne (show l.length * 2+1≠j * 2 by omega),Array.getElem?_setIfInBounds_ne (show l.length * 2≠j * 2 by omega),Array.getElem?_setIfInBounds_ne (show 32≠j * 2 by omega)]
  exact h1
 rw [Array.getElem?_setIfInBounds_ne (show l.length * 2+1≠j * 2+1 by omega),Array.getElem?_setIfInBounds_ne (show l.length * 2≠j * 2+1 by omega),Array.getElem?_setIfInBounds_ne (show 32≠j * 2+1 by omega)]
 exact h2
theorem zpu (h:W.heap[B]? =some (.cells #[x0,x1] t (0,0))):
 ((W.setCell ↑B v0).setCell (B 1 ()) v1) B=some v0/\((W.setCell ↑B v0).setCell (B 1 ()) v1) (B 1 ())=some v1:=by
 have:=heap_setCell_same _ B 1 _ _ v1 (heap_setCell_same W B 0 _ _ v0 h)
 constructor <;> simp [World.cell?,this]
theorem zfx (tmps:Array Value) (B:Nat) (e v0 v1:Value) (W:World) (h2:tmps[2]? =some (π (some ↑B))) (h3:tmps[3]? =some e) (q0:W B=some v0) (q1:W (B 1 ())=some v1):
 (results Tryz.f153 tmps).run prog W= .ok (.tuple #[.agg #[v0,v1],e]) W:=by
 simp [results,Tryz.results153,go_sem,h2,h3,q0,q1]
theorem zhe (h:zZ w q []):
 χ 153 #[zv q] w fun e w'=> e=ρ (.tuple #[.agg #[π none,ι 0], .bool false])/\θ w w w':=by
 obtain ⟨c32,c33,cf,-⟩:=h.reads;have d32:=zu (zu c32 (.cells #[π none,ι 0] 223)) (.cells #[π none,ι 0] 223);have hb:θ w w ((w.alloc (.cells #[π none,ι 0] 223)).alloc (.cells #[π none,ι 0] 223)):=(zr.alloc zl _).alloc uh _;have y0:(w.alloc (.cells #[π none,ι 0] 223)) w=some (π none):=uh;have y1:(w.alloc (.cells #[π none,ι 0] 223)) ⟨↑w,1,none⟩=some (ι 0):=uh;have Y:=zh (zn (zu y0 (.cells #[π none,ι 0] 223)) (zu y1 (.cells #[π none,ι 0] 223)));unfold zv;simp only [List.length_nil,Int.natCast_zero] at d32;go_in;go_wp2_with fail;refine bodyPost_ret (zfx _ ↑w _ _ _ _ rfl rfl Y.out.1 Y.out.2) rfl ?_;exact ⟨rfl,hb⟩
theorem zhf {l:List (Nat × Nat)} {x:Nat × Nat} (h:zZ w q (l++ [x])):
 χ 153 #[zv q] w fun e w'=> e=ρ (.tuple #[.agg #[zv x.1,↑x.2], .bool true])/\zZ w' q l/\w.grownBy w' (some q):=by
 have hb:θ w w ((w.alloc (.cells #[π none,ι 0] 223)).alloc (.cells #[π none,ι 0] 223)):=(zr.alloc zl _).alloc uh _;have hq:=h.lt;have hl:l.length < 16:=by have:=h.len;simp at this;omega
 have h2:zZ ((w.alloc (.cells #[π none,ι 0] 223)).alloc (.cells #[π none,ι 0] 223)) q (l++ [x]):=h.heap (hb.block q hq);obtain ⟨d32,d33,df,dx⟩:=h2.reads;obtain ⟨x0,x1⟩:=dx l.length x uL;have Ac:((l++ [x]).length:Int)=(l.length:Int)+1:=uh;rw [Ac] at d32;obtain ⟨c32,c33,cf,cx⟩:=h.reads;obtain ⟨z0,z1⟩:=cx l.length x uL;rw [Ac] at c32;have Ab:IntKind.i64.wrap ((l.length:Int)+1 - 1)=(l.length:Int):=by rw [zw _ ud];omega
 have GV:IntKind.i64.wrap (l.length:Int)=(l.length:Int):=zw _ ud;have Aj:((l.length:Int)+1==0)=false:=by rw [beq_eq_false_iff_ne];omega
 have Yu:(l.length:Int) < 16:=ud;have Dm:(0:Int)<=(l.length:Int):=ud;have Ei:=zh (h.post (.cells #[π none,ι 0] 223) (.cells #[π none,ι 0] 223));have Lk:=zh (h.pre (.cells #[π none,ι 0] 223) (.cells #[π none,ι 0] 223));unfold zv at x0 z0 Lk ⊢;go_in;go_wp2_with fail;obtain ⟨⟨p32,p0,p1⟩,pf⟩:=Lk.out;obtain ⟨cs5,Fo,MW,Dn,C2⟩:=Ei.out;have O2:(((w.setCell (q 32 ()) ↑l.length).alloc (.cells #[π none,ι 0] 223)).alloc (.cells #[π none,ι 0] 223)).heap.size=w.heap.size+1+1:=uh;have YP:(((w.setCell (q 32 ()) ↑l.length).alloc (.cells #[π none,ι 0] 223)).alloc (.cells #[π none,ι 0] 223)).heap[w.heap.size]? =some (.cells #[π none,ι 0] 223):=by
  rw [Below.heap_alloc _ _ _ uh];have:=heap_alloc_new (w.setCell (q 32 ()) ↑l.length) (.cells #[π none,ι 0] 223)
  simpa using this
 have Bo:(((w.setCell (q 32 ()) ↑l.length).alloc (.cells #[π none,ι 0] 223)).alloc (.cells #[π none,ι 0] 223)).heap[w.heap.size+1]? =some (.cells #[π none,ι 0] 223):=by
  have:=heap_alloc_new ((w.setCell (q 32 ()) ↑l.length).alloc (.cells #[π none,ι 0] 223)) (.cells #[π none,ι 0] 223)
  simpa using this
 have BN:w.grownBy (((w.setCell (q 32 ()) ↑l.length).alloc (.cells #[π none,ι 0] 223)).alloc (.cells #[π none,ι 0] 223)) (some q):=⟨rfl,rfl,rfl,uo,fun k hk Aj=> by
  rw [Below.heap_alloc _ _ _ uo,Below.heap_alloc _ _ _ (by simpa using hk),heap_setCell_other _ _ k _ (fun e=> Aj uJ)]⟩
 generalize ym:((w.setCell (q 32 ()) ↑l.length).alloc (.cells #[π none,ι 0] 223)).alloc (.cells #[π none,ι 0] 223)=W5 at *;have r32:=zu p32 (.cells #[π none,ι 0] 223);have r0:=zu p0 (.cells #[π none,ι 0] 223);have r1:=zu p1 (.cells #[π none,ι 0] 223);have Y6:q < ↑W5:=by rw [O2];omega
 have HE:=zh C2;have BU:=zh Dn
 go_region
 all_goals
  go_wp2_with fail;have Mc:(W5.alloc (.cells #[π (some ⟨x.1,0,none⟩),↑x.2] 223)).drew.heap.size=w.heap.size+1+1+1:=by show (W5.alloc (.cells #[π (some ⟨x.1,0,none⟩),↑x.2] 223)).heap.size=_;simp [O2]
  have s32:=zu p32 (.cells #[π (some ⟨x.1,0,none⟩),↑x.2] 223);have s0:=zu p0 (.cells #[π (some ⟨x.1,0,none⟩),↑x.2] 223);have s1:=zu p1 (.cells #[π (some ⟨x.1,0,none⟩),↑x.2] 223);have sq:(W5.alloc (.cells #[π (some ⟨x.1,0,none⟩),↑x.2] 223)).drew.heap[q]? =some (.cells cs5 279 (0,0)):=by
   show (W5.alloc (.cells #[π (some ⟨x.1,0,none⟩),↑x.2] 223)).heap[q]? =_
   rw [Below.heap_alloc _ _ _ Y6];exact Fo
  have so0:(W5.alloc (.cells #[π (some ⟨x.1,0,none⟩),↑x.2] 223)).drew.heap[w.heap.size]? =some (.cells #[π none,ι 0] 223):=by
   show (W5.alloc (.cells #[π (some ⟨x.1,0,none⟩),↑x.2] 223)).heap[w.heap.size]? =_
   rw [Below.heap_alloc _ _ _ ud];exact YP
  have so1:(W5.alloc (.cells #[π (some ⟨x.1,0,none⟩),↑x.2] 223)).drew.heap[w.heap.size+1]? =some (.cells #[π none,ι 0] 223):=by
   show (W5.alloc (.cells #[π (some ⟨x.1,0,none⟩),↑x.2] 223)).heap[w.heap.size+1]? =_
   rw [Below.heap_alloc _ _ _ ud];exact Bo
  have so2:(W5.alloc (.cells #[π (some ⟨x.1,0,none⟩),↑x.2] 223)).drew.heap[w.heap.size+1+1]? =some (.cells #[π (some ⟨x.1,0,none⟩),↑x.2] 223):=by
   have:=heap_alloc_new W5 (.cells #[π (some ⟨x.1,0,none⟩),↑x.2] 223);rw [O2] at this;exact this
  have AX:w.grownBy (W5.alloc (.cells #[π (some ⟨x.1,0,none⟩),↑x.2] 223)).drew (some q):=⟨BN.os,BN.tape,BN.output,by rw [Mc];omega,fun k hk Aj=> by
   show (W5.alloc (.cells #[π (some ⟨x.1,0,none⟩),↑x.2] 223)).heap[k]? =_
   rw [Below.heap_alloc _ _ _ ud];exact BN.block k hk Aj⟩
  generalize (W5.alloc (.cells #[π (some ⟨x.1,0,none⟩),↑x.2] 223)).drew=W6 at *;obtain ⟨t32,⟨u0,t0⟩,⟨u1,t1⟩,tf⟩:=BU.out W6 sq;have v0:W6 w=some (π none):=by simp [World.cell?,so0]
  have v1:W6 ⟨↑w,1,none⟩=some (ι 0):=by simp [World.cell?,so0]
  have vf:∀j,W6.frozen? ⟨↑w,j,none⟩=false:=fun j=> by simp [World.frozen?,so0]
  have n0:W6 ⟨↑w+1,0,none⟩=some (π none):=by simp [World.cell?,so1]
  have n1:W6 ⟨↑w+1,1,none⟩=some (ι 0):=by simp [World.cell?,so1]
  have y0:W6 ⟨↑w+1+1,0,none⟩=some (π (some ⟨x.1,0,none⟩)):=by simp [World.cell?,so2]
  have y1:W6 ⟨↑w+1+1,1,none⟩=some ↑x.2:=by simp [World.cell?,so2]
  have IM:¬q=↑w:=ud;have Zb:¬q=w.heap.size+1:=ud;have Zc:¬q=w.heap.size+1+1:=ud;have WH:=zh sq;have Wu:=zh so0;have Wc:=zh AX
  go_region
  all_goals
   go_wp2_with fail;have hv:=zpu (v0:=π (some ⟨x.1,0,none⟩)) (v1:= ι x.2) (show ((W6.setCell (q (l.length * 2) ()) (π none)).setCell (q (l.length * 2+1) ()) (ι 0)).heap[w.heap.size]? =_ from by rw [heap_setCell_other _ _ _ _ (fun e=> IM e.symm),heap_setCell_other _ _ _ _ (fun e=> IM e.symm)];exact Wu.out)
   refine bodyPost_ret (zfx _ ↑w _ _ _ _ rfl rfl hv.1 hv.2) rfl ?_;refine ⟨rfl,HE.out _ ?_, ?_⟩
   ·show ((((W6.setCell (q (l.length * 2) ()) (π none)).setCell (q (l.length * 2+1) ()) (ι 0)).setCell ↑w (π (some ⟨x.1,0,none⟩))).setCell ⟨↑w,1,none⟩ ↑x.2).heap[q]? =_
    rw [heap_setCell_other _ _ _ _ IM,heap_setCell_other _ _ _ _ IM];exact heap_setCell_same _ q _ _ _ _ (heap_setCell_same W6 q _ _ _ _ WH.out)
   have hg:=Wc.out;refine ⟨hg.os,hg.tape,hg.output,by simp [Mc];omega,fun k hk Aj=> ?_⟩
   have Tj:k≠q:=fun e=> Aj uJ
   show ((((W6.setCell (q (l.length * 2) ()) (π none)).setCell (q (l.length * 2+1) ()) (ι 0)).setCell ↑w (π (some ⟨x.1,0,none⟩))).setCell ⟨↑w,1,none⟩ ↑x.2).heap[k]? =_
   rw [heap_setCell_other _ _ k _ uae,heap_setCell_other _ _ k _ uae,heap_setCell_other _ _ k _ Tj,heap_setCell_other _ _ k _ Tj];exact hg.block k hk Aj
end
section
open Go.RowKit
def zaw (w:World) (pt:Nat) (root:Option Nat) (n:Nat):Prop:=w.heap[pt]? =some (.cells #[π (root.map fun p=> ⟨p,0,none⟩),↑n] 159)
def zf2 (w:World) (S:Nat->Prop) (k:Nat):{d:Nat}->Nat->Tr d->List (Nat × Nat)->Nat->Tr 0->Prop
 | 0,p,t,path,pl,lt=> path= []/\pl=p/\lt=t/\zQ w S p t
 | _+1,p,t,path,pl,lt=> zQ w S p t/\∃q c path',path=(p,zP (zC t) k)::path'/\(zx t)[zP (zC t) k]? =some c/\zQ w S q c/\zf2 w S k q c path' pl lt
theorem zhl (h:zaw w pt none n) (k:Nat):
 χ 82 #[zv pt,za2 k] w fun e w'=> ∃q,e=ρ (.tuple #[zv q,π none])/\zZ w' q []/\↑w<=q/\θ w w w':=by
 have Aq:θ w w (w.alloc (.cells #[τ (zj k),ν (zo k),υ (zp k)] 111)):=zr.alloc zl _;have HN:=zh (zeF (w.alloc (.cells #[τ (zj k),ν (zo k),υ (zp k)] 111)));have Ew:pt < ↑w:=(zg h).1;unfold za2 zv at *;go_in;go_wp2_with fail;refine HN.out.mono ?_;rintro e w2 ⟨rfl,AO,Ae⟩;have hb:=Aq.trans (Ae.mono Aq.size);have hr:w2 pt=some (π none):=by
  have e:w2.heap[pt]? =some (.cells #[π none,↑n] 159):=by rw [hb.block pt Ew];exact h
  simp [World.cell?,e]
 have HS:=zh AO;go_wp2_with fail;refine wp_loop_rounds 1 ?_;rw [rounds_succ];go_wp2;go_ret2;exact ⟨↑w+1,rfl,by simpa using HS.out,ud,hb⟩
theorem zf2.same (hs:zbk S w w') :∀{d:Nat} {p:Nat} {t:Tr d} {path:List (Nat × Nat)} {pl:Nat} {lt:Tr 0},zf2 w S k p t path pl lt->zf2 w' S k p t path pl lt
 | 0,_,_,_,_,_,h=> ⟨h.1,h.2.1,h.2.2.1,h.2.2.2.same hs⟩
 | _+1,_,_,_,_,_,⟨h0,q,c,path',h1,h2,h3,h4⟩=> ⟨h0.same hs,q,c,path',h1,h2,h3.same hs,zf2.same hs h4⟩
def zoV (w:World) (S:Nat->Prop) (k:Nat)  (p:Nat) (t:Tr d) (q:Nat) (v:Value) (m:Nat):Prop:=
 ∃ (e p':Nat) (t':Tr e) (pre:List (Nat × Nat)),m=e/\v=zv p'/\zQ w S p' t'/\0 < zH t'/\zH t'<=6/\zax t'/\zac (flatT t')/\zZ w q pre/\pre.length+e<=d/\
   ∀path pl lt,zf2 w S k p' t' path pl lt->zf2 w S k p t (pre++path) pl lt
theorem zhm {t:Tr d} (h:zaw w pt (some p) n) (ht:zQ w S p t) (hS:∀j,S j->j < w.heap.size) (h0:0 < zH t) (h6:zH t<=6) (hK:zax t) (hr:zac (flatT t)) (hd:d<=15) (k:Nat):
 χ 82 #[zv pt,za2 k] w fun e w'=> ∃q path pl lt,e=ρ (.tuple #[zv q,zv pl])/\zZ w' q path/\w.heap.size<=q/\zf2 w' S k p t path pl lt/\θ w.heap.size w w':=by
 have Aq:θ w.heap.size w (w.alloc (.cells #[τ (zj k),ν (zo k),υ (zp k)] 111)):=zr.alloc zl _;have x0:(w.alloc (.cells #[τ (zj k),ν (zo k),υ (zp k)] 111)).cell? ⟨w.heap.size,0,none⟩=some (τ (zj k)):=by simp
 have x1:(w.alloc (.cells #[τ (zj k),ν (zo k),υ (zp k)] 111)).cell? ⟨w.heap.size,1,none⟩=some (ν (zo k)):=by simp
 have x2:(w.alloc (.cells #[τ (zj k),ν (zo k),υ (zp k)] 111)).cell? ⟨w.heap.size,2,none⟩=some (υ (zp k)):=by simp
 have HN:=zh (zeF (w.alloc (.cells #[τ (zj k),ν (zo k),υ (zp k)] 111)));have Ew:pt < w.heap.size:=(zg h).1;have Cd:(w.alloc (.cells #[τ (zj k),ν (zo k),υ (zp k)] 111)).heap.size=w.heap.size+1:=by simp
 unfold za2;unfold zv at HN ⊢;go_enter func82,ntmps82;go_wp2_with fail;refine HN.out.mono ?_;rintro e w2 ⟨rfl,AO,Ae⟩;have hb:=Aq.trans (Ae.mono Aq.size);have P6:w2.cell? ⟨pt,0,none⟩=some (π (some ⟨p,0,none⟩)):=by
  have e:w2.heap[pt]? =some (.cells #[π (some ⟨p,0,none⟩),ι n] 159):=by rw [hb.block pt Ew];exact h
  simp [World.cell?,e]
 rw [Cd] at AO Ae;have z0:w2.cell? ⟨w.heap.size,0,none⟩=some (τ (zj k)):=by rw [Ae.cell (p:=⟨w.heap.size,0,none⟩) (by simp)];exact x0
 have z1:w2.cell? ⟨w.heap.size,1,none⟩=some (ν (zo k)):=by rw [Ae.cell (p:=⟨w.heap.size,1,none⟩) (by simp)];exact x1
 have z2:w2.cell? ⟨w.heap.size,2,none⟩=some (υ (zp k)):=by rw [Ae.cell (p:=⟨w.heap.size,2,none⟩) (by simp)];exact x2
 have Nk:zoV w2 S k p t (w.heap.size+1) (zv p) d:=⟨d,p,t, [],rfl,rfl,ht.same (zbk.of_below hb hS),h0,h6,hK,hr,AO,by simp,fun path pl lt hw=> hw⟩
 have vr:=zh Nk;have VB:=AO.lt;clear x0 x1 x2 HN Cd h ht h0 h6 hK hr AO Nk Ae;generalize hB:w.heap.size=B at *;go_wp2_with fail
 go_loopw [7] (fun u7 wr=> ∃m:Nat,zoV wr S k p t (B+1) u7 m/\θ (B+1) w2 wr) (fun u7 wr=> d - ((wr.cell? ⟨B+1,32,none⟩).map fun v=> (intOf v).toNat).getD 0)
 case atStart=> exact ⟨d,vr.out,Below.refl _ _⟩
 case round=>
  obtain ⟨m,⟨e,p',t',pre,rfl,rfl,hN,h0,h6,hK,hr,AO,BO,D9⟩,AA⟩:=hrel;have Qy:θ B w wr:=hb.trans (AA.mono (by omega))
  have y0:wr.cell? ⟨B,0,none⟩=some (τ (zj k)):=by rw [AA.cell (p:=⟨B,0,none⟩) (by show B < B+1;omega)];exact z0
  have y1:wr.cell? ⟨B,1,none⟩=some (ν (zo k)):=by rw [AA.cell (p:=⟨B,1,none⟩) (by show B < B+1;omega)];exact z1
  have y2:wr.cell? ⟨B,2,none⟩=some (υ (zp k)):=by rw [AA.cell (p:=⟨B,2,none⟩) (by show B < B+1;omega)];exact z2
  obtain ⟨ka,kc,va,vn,vc,ca,cn,cc,AH,Eu⟩:=hN.box;obtain ⟨b0,b1,b2,b3,YQ⟩:=AH.reads;unfold zv
  cases m with
  | zero=>
    have AL:=D9 [] p' t' ⟨rfl,rfl,rfl,hN⟩;have HF:=zh AL;have EZ:=zh AO;have b0':wr.cell? ⟨p',0,none⟩=some (.bool true):=b0;clear D9 hN hK hr AO Eu AH b0 b1 b2 b3 h0 h6 AL;go_wp2_with fail;go_ret2;exact ⟨B+1,pre++ [],p',t',rfl,by rw [List.append_nil];exact EZ.out,by omega,HF.out,by rw [hB];exact Qy⟩
  | succ m=>
    have b0':wr.cell? ⟨p',0,none⟩=some (.bool false):=b0;have JE:∀j,S j->j < wr.heap.size:=fun j hj=> by have:=hS j hj;have:=Qy.size;omega
    have HK:=zh (zmJ hN JE (by omega) (zdP hK hr) k)
    have HN:=zh hN;have HW:=zh D9;have EZ:=zh AO;have qW:=zh hK;have HR:=zh hr;have Fx:pre.length < 16:=by omega
    have P9:=AO.lt;unfold za2 zv at HK;clear Eu AH b0 b1 b2 b3 hN D9 AO hK hr;go_wp2_with fail;refine HK.out.mono ?_;rintro e w3 ⟨rfl,Am⟩;have Hl:=zh (EZ.out.heap (Am.block (B+1) P9));have Ll:=zh (zhg Hl.out Fx p' (zP (zC t') k));unfold zv at Ll;go_wp2_with fail;refine Ll.out.mono ?_;rintro e w4 ⟨rfl,P8,DH⟩;have Nc:θ B w w3:=Qy.trans (Am.mono (by have:=Qy.size;omega))
    have UN:θ B w w4:=Nc.grown DH (by have:=Nc.size;omega) (fun j hj=> by cases hj;omega)
    have WZ:θ (B+1) w2 w4:=(AA.trans (Am.mono (by omega))).grown DH (by have:=Am.size;omega) (fun j hj=> by cases hj;exact zl)
    have FK:zbk S wr w4:=(zbk.of_below (B:=B) ⟨(DH.os.trans Am.os),(DH.tape.trans Am.tape),(DH.output.trans Am.output),zs Am.size DH.size,fun j hj=> by
        rw [DH.block j (by have:=Qy.size;have:=Am.size;omega) (fun e=> by have:=Option.some.inj e;omega)]
        exact Am.block j (by have:=Qy.size;omega)⟩ (fun j hj=> by have:=hS j hj;omega))
    have OT:zQ w4 S p' t':=HN.out.same FK;have Oo:=zh OT;have Z1:∀path pl lt,zf2 w4 S k p' t' path pl lt->zf2 w4 S k p t (pre++path) pl lt:=fun path pl lt hw=> zf2.same FK (HW.out path pl lt (zf2.same (fun j hj=> (FK j hj).symm) hw));obtain ⟨c,hc⟩:=zcA h0 k;obtain ⟨ka',kc',ca',cc',ps,SA,Yt,T7,YX,Kz⟩:=OT;have Mr:=(zi hc).1;obtain ⟨q',k8⟩:∃q',ps[zP (zC t') k]? =some q':=⟨_,ze (by rw [YX];exact Mr)⟩
    have Iw:=Kz _ q' c k8 hc;obtain ⟨cb,co,rfl,Bn⟩:=T7.2 (zP (zC t') k) (zv q') (by rw [List.getElem?_map,k8];rfl)
    obtain ⟨-,-,-,e3,-⟩:=SA.reads;have Ce:=zm hc;have UR:=zag.kid qW.out Ce;have Nk:zoV w4 S k p t (B+1) (zv q') m:=⟨m,q',c,pre++ [(p',zP (zC t') k)],rfl,rfl,Iw,by have:=UR.lo;omega,UR.hi,UR.kids,zbu HR.out Ce,P8,by simp;omega,fun path pl lt hw=> by
        rw [List.append_assoc];exact Z1 _ pl lt ⟨Oo.out,q',c,path,rfl,hc,Iw,hw⟩⟩
    have Xl:=zh Nk;have e3':w4.cell? ⟨p',3,none⟩=some (σ (some ⟨cb,co,none⟩) (zx t').length cc'):=e3;have XT:w4.cell? ⟨cb,co+zP (zC t') k,none⟩=some (π (some ⟨q',0,none⟩)):=Bn;have Bb:((zP (zC t') k:Nat):Int) < ((zx t').length:Int):=by omega
    have N1:=P8.reads.1;have T9:=EZ.out.reads.1;simp only [List.length_append,List.length_singleton] at N1;have cg:pre.length < d:=by omega
    clear Nk Iw Kz T7 Yt SA Oo Z1 HW HN HK Ll UR Bn e3 P8;generalize zP (zC t') k=ki at *;generalize (zx t').length=kn at *;go_wp2_with fail
    go_roundw
    case rel=> exact ⟨m,Xl.out,WZ⟩
    case measure=> rw [N1,T9];simp [intOf];omega
end
end Go.Proofs.YtaoceecfjlkmdaaGreat
