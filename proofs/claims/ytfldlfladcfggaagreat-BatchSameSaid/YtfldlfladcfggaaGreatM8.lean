/- Lemmas of the walks, merged and pressed by press.py. Conditions: those of each theorem. -/
import Derived.Maps.OwnIn
import Derived.DeepKeys3
import Derived.Maps.Views
import Derived.Test.YtfldlfladcfggaaGreatM6
set_option maxRecDepth 100000
set_option maxHeartbeats 64000000
set_option linter.all false
namespace Go.Proofs.YtfldlfladcfggaaGreat
section
open Go.RowKit Go.Maps
def zte (s:Int × Int):Value:= .agg #[.int .i64 s.1, .int .i64 s.2]
def zrF (s:Int × Int):Lit:= .string (keyBytes [.int .i64 s.1, .int .i64 s.2])
def zsA (S:List (Int × Int)):DataW Unit:=S.foldr (fun s D=> D.put (zrF s) (.lit (.int .i64 1))) (.map [])
theorem InS.wf {s:Int × Int} (h:InS s):(Lit.int .i64 s.1).wf=true∧(Lit.int .i64 s.2).wf=true:=by
 obtain ⟨⟨h1,h2⟩,h3,h4⟩:=h
 constructor
 ·simp [Lit.wf,IntKind.min,IntKind.max,IntKind.signed,IntKind.bits];omega
 ·simp [Lit.wf,IntKind.min,IntKind.max,IntKind.signed,IntKind.bits];omega
theorem zsN:Tryz.prog.cellsOf 71=2:=by kernel_rfl
theorem zs4:Tryz.prog.cellsOf 3=1:=by kernel_rfl
theorem zsi:Tryz.prog.keyType 71=true:=by kernel_rfl
theorem zrP:Tryz.prog.keyTypeAt 3 71=true:=by kernel_rfl
theorem zsT:Tryz.prog.tiled 3 71=true:=by kernel_rfl
theorem zr8:Keyed Tryz.prog 71:=Keyed.of_law (deep_law (m:=3) (by omega) zrP zsT (by rw [Tryz.underlying71]))
theorem zsh {P:Program} {t:TypeId} {f0 f1:Field} (hu:P.underlying t=some (.struct #[f0,f1])) (fb:P.underlying 3=some (.int .i64)) (Ga:P.keyType t=true) (hc:P.cellsOf t=2) (G4:P.cellsOf 3=1) (AR:0 < P.types.size)
 (n0 : (f0.name != "_") = true) (n1 : (f1.name != "_") = true) (t0 : f0.type = 3) (t1 : f1.type = 3) (o0 : f0.offset = 0) (o1 : f1.offset = 1) (x y : Int) (hx : (Lit.int .i64 x).wf = true) (hy : (Lit.int .i64 y).wf = true) :
 keyOf P t (.agg #[.int .i64 x, .int .i64 y])=some (.string (keyBytes [.int .i64 x, .int .i64 y])):=by
 obtain ⟨k,hk⟩:∃k,P.types.size=k+1:=⟨P.types.size - 1,by omega⟩
 unfold keyOf;rw [hu];simp only [bne_iff_ne,ne_eq] at n0 n1;simp [Ga,Value.formed,hu,hc,Value.cells,hk,Program.keyLits,fb,G4,hx,hy,n0,n1,t0,t1,o0,o1]
theorem zs8:(0:Nat) < Tryz.prog.types.size:=of_decide_eq_true (by kernel_rfl)
theorem zq2 (s:Int × Int) (h:InS s):keyOf Tryz.prog 71 (zte s)=some (zrF s):=
 zsh Tryz.underlying71 Tryz.underlying3 zsi zsN zs4 zs8 (by decide) (by decide) rfl rfl rfl rfl s.1 s.2 h.wf.1 h.wf.2
theorem zsC {s u:Int × Int} (hs:InS s) (hu:InS u) (h:zrF s=zrF u):s=u:=by
 have:=zr8.inj (zq2 s hs) (by rw [h];exact zq2 u hu)
 unfold zte at this;simp at this;exact Prod.ext this.1 this.2
theorem zsB (S:List (Int × Int)):IsMap (zsA S):=by
 induction S with
 | nil=> exact ⟨_,rfl⟩
 | cons s S ih=> obtain ⟨es,h⟩:=ih;exact ⟨_,by show DataW.put (zsA S) _ _=_;rw [h];rfl⟩
theorem zsP (S:List (Int × Int)) (hS:∀s ∈ S,InS s) (u:Int × Int) (hu:InS u):(zsA S).atKey (zrF u) (.lit (.int .i64 0))= .lit (.int .i64 (if u ∈ S then 1 else 0)):=by
 induction S with
 | nil=> rfl
 | cons s S ih=>
   show (DataW.put (zsA S) (zrF s) (.lit (.int .i64 1))).atKey (zrF u) _=_
   by_cases e:u=s
   ·subst e;rw [atKey_put_same (zsB S) (zr8.key (zq2 u hu))];simp
   ·have Aj:zrF u≠zrF s:=fun h=> e (zsC hu (hS s (by simp)) h)
    rw [atKey_put_other Aj,ih (fun s hs=> hS s (by simp [hs]))]
    simp [e]
def zlp (w:World) (b:Nat) (S:List (Int × Int)):Prop:=(∀s ∈ S,InS s)∧w.ownsMap Tryz.prog 71 (plainElem Tryz.prog 3) b S.length (zsA S)
theorem zlp.made (w:World):zlp (w.alloc (.map #[] 0)) w.heap.size []:=⟨by simp,World.ownsMap_made w Tryz.prog 71 _⟩
theorem zlp.kept {w w':World} {b:Nat} {S:List (Int × Int)} {row:Option Nat} (h:zlp w b S) (hg:w.grownBy w' row) (Aj:some b≠row):zlp w' b S:=⟨h.1,h.2.kept hg Aj⟩
theorem zlp.heap {w w':World} {b:Nat} {S:List (Int × Int)} (h:zlp w b S) (hb:w'.heap[b]? =w.heap[b]?):zlp w' b S:=by
 obtain ⟨es,clock,h1,h2⟩:=h.2;exact ⟨h.1,es,clock,hb.trans h1,h2⟩
theorem zlp.obj {w:World} {b:Nat} {S:List (Int × Int)} (h:zlp w b S):∃es clock,w.heap[b]? =some (.map es clock):=by
 obtain ⟨es,clock,h1,h2⟩:=h.2;exact ⟨es,clock,h1⟩
theorem zlp.look {w:World} {b:Nat} {S:List (Int × Int)} (h:zlp w b S) (s:Int × Int) (hs:InS s):
 (Instr.lookup 64 (.map (some b)) (.agg #[.int .i64 s.1, .int .i64 s.2]) false).run Tryz.prog w= .ok (.int .i64 (if s ∈ S then 1 else 0)) w:=by
 obtain ⟨c,Be,AF,-⟩:=h.2.lookup_int zr8 Tryz.underlying64 Tryz.underlying3 (Tryz.zeroValue3 w) (zq2 s hs);rw [zsP S h.1 s hs] at AF;have e:(if s ∈ S then 1 else 0)=c:=by simpa using AF
 rw [e];exact Be
theorem zlp.put {w:World} {b:Nat} {S:List (Int × Int)} (h:zlp w b S) (s:Int × Int) (hs:InS s) (hl:S.length≤1000000):
 ∃w',(Instr.mapUpdate 64 (.map (some b)) (.agg #[.int .i64 s.1, .int .i64 s.2]) (.int .i64 1)).run Tryz.prog w= .ok () w'∧zlp w' b (s::S)∧w.grownBy w' (some b):=by
 obtain ⟨w',Be,ho,hg⟩:=h.2.update zr8 Tryz.underlying64 (by unfold maxLen;omega) (zq2 s hs) (plainElem_int Tryz.underlying3 (a:=1) (by decide))
 refine ⟨w',Be,⟨fun u hu=> ?_,ho⟩,hg⟩;rcases List.mem_cons.1 hu with rfl | hu
 ·exact hs
 ·exact h.1 u hu
theorem zlp.cleared {w:World} {b:Nat} {S:List (Int × Int)} (h:zlp w b S) (ty:TypeId):
 ∃w',(Builtin.clear_ #[64] ty #[.map (some b)]).run Tryz.prog w= .ok (.tuple #[]) w'∧zlp w' b []∧w.grownBy w' (some b):=by
 obtain ⟨es,clock,hb,-⟩:=h.2;refine ⟨_,by simp [Builtin.clear_,run_underlying Tryz.underlying64,MapKept.run_getObj_map hb,MapKept.run_setObj_map _ hb,Result.andThen];rfl,⟨by simp,#[],clock,ChangeMaps.heap_setBlock_same hb _,⟨by simp,MapKept.stamped_empty _,by simp⟩,zl,rfl⟩, ?_⟩
 exact ⟨rfl,rfl,rfl,by simp [ChangeMaps.setBlock],fun i _ hi=> ChangeMaps.heap_setBlock_other hb _ (fun e=> hi (by rw [e]))⟩
def zlo (w:World) (B:Nat) (v:Value) (l:List (Int × Int)):Prop:=w.ownsRow B 71 2 v l.length (zlq l)
theorem zs5:(Tryz.prog.info? 71).map (fun i=> (i.zero,i.size,i.bytes))=some (some (.agg #[.int .i64 0, .int .i64 0]),2,16):=by kernel_rfl
theorem zlo.push {w:World} {B:Nat} {v:Value} {l:List (Int × Int)} (h:zlo w B v l) (x y:Int) (hl:l.length≤1000000000) (hB:B≤w.heap.size):
 ∃v' w',(Builtin.append_ #[68,68] 68 #[v, .slice (some ⟨w.heap.size,0,none⟩) 1 1]).run Tryz.prog (w.alloc (.cells #[.int .i64 x, .int .i64 y] 71))= .ok v' w'∧zlo w' B v' (l++ [(x,y)])∧w.grownBy w' v.ownBlock:=by
 obtain ⟨i0,hi,AG,Ai,Ax⟩:=info_parts zs5;obtain ⟨v',w',hr,Af,hg,_⟩:=zlX (P:=Tryz.prog) Tryz.underlying68 hi AG Ai Ax rfl (by decide) h 1 [.int .i64 x, .int .i64 y] rfl (by simp [Value.oneCell']) (by unfold maxLen;omega) (by omega) hB
 refine ⟨v',w',hr, ?_,hg⟩;unfold zlo;rw [zrU,List.length_append];exact Af
theorem zlo.one (w:World) {B:Nat} (hB:B≤w.heap.size) (x y:Int):zlo (w.alloc (.cells #[.int .i64 x, .int .i64 y] 71)) B (.slice (some ⟨w.heap.size,0,none⟩) 1 1) [(x,y)]:=
 ⟨rfl, .inr ⟨w.heap.size,1,#[.int .i64 x, .int .i64 y],rfl,hB,heap_alloc_new w _,Nat.le_refl 1,by unfold maxLen;omega,rfl,rfl⟩⟩
theorem zlo.runs {w:World} {B:Nat} {v:Value} {l:List (Int × Int)} (h:zlo w B v l):∃a cap,v= .slice a l.length cap∧Runs w a l.length l∧l.length≤cap:=by
 rcases h.2 with ⟨rfl,h0⟩ | ⟨g,cap,cur,rfl,Bc,hg,Ge,Ce,Fo,CY⟩
 ·have:l= []:=List.eq_nil_of_length_eq_zero h0;subst this;exact ⟨none,0,rfl,⟨rfl,fun i r hr=> by simp at hr⟩,zl⟩
 ·refine ⟨some ⟨g,0,none⟩,cap,rfl,⟨rfl,fun i r hr=> ?_⟩,Ge⟩;obtain ⟨h1,h2⟩:=zr3 l i r hr;have e1:=h.cells (g:=g) rfl _ _ h1;have e2:=h.cells (g:=g) rfl _ _ h2;refine ⟨g,0,rfl, ?_, ?_⟩
  ·rw [← e1];congr 1;unfold Addr.add;split <;> simp_all
  ·rw [← e2];congr 1
theorem zsD (o:PO) (da ma:Option Addr) (dn dc mn mc:Nat) (w:World) (hp:o.plain56=true):
 Calls Tryz.prog 18 #[.agg #[.int .i64 o.k, .int .i64 o.v, .int .i64 o.i, .int .i64 o.b, .int .i64 o.n, .int .u64 o.pt, .slice da dn dc, .slice ma mn mc]] w fun e w'=> ∃v,e= .returned v∧zlo w' w.heap.size v o.spots∧Below w.heap.size w w':=by
 have DF:=zf3 hp;have hb:Below w.heap.size w (w.alloc (.cells #[.int .i64 o.k, .int .i64 o.v, .int .i64 o.i, .int .i64 o.b, .int .i64 o.n, .int .u64 o.pt, .slice da dn dc, .slice ma mn mc] 28)):=zr.alloc zl _;have hC:=zq4.new w o.k o.v o.i o.b o.n o.pt (.slice da dn dc) (.slice ma mn mc);have AR:(w.alloc (.cells #[.int .i64 o.k, .int .i64 o.v, .int .i64 o.i, .int .i64 o.b, .int .i64 o.n, .int .u64 o.pt, .slice da dn dc, .slice ma mn mc] 28)).heap.size=w.heap.size+1:=by simp
 obtain ⟨k,v,i,b,n,pt,d,m⟩:=o;simp only at *;clear hp
 by_cases h4:k=4
 ·subst h4;have hs:PO.spots ⟨4,v,i,b,n,pt,d,m⟩= [(v,b)]:=rfl;rw [hs];obtain ⟨c0,c1,c2,c3,c4,-⟩:=hC;have hO:=zlo.one _ hb.size v b;rw [AR] at hO;have HO:=zh hO;clear hO;go_enter Tryz.func18,Tryz.ntmps18;go_wp2_with fail;go_ret;exact ⟨_,rfl,HO.out,hb.alloc hb.size _⟩
 ·obtain ⟨rfl,Jn,BH⟩:k=5∧1≤n∧n≤32:=by omega
  obtain ⟨N,rfl⟩:∃N:Nat,n=N:=⟨n.toNat,by omega⟩
  have hs:PO.spots ⟨5,v,i,b,(N:Int),pt,d,m⟩=(List.range N).map fun j:Nat=> (v,b+(j:Int)):=by
   unfold PO.spots PO.blocks;rw [if_neg (show ¬(5:Int)=4 by decide),List.map_map]
   rfl
  rw [hs];have HC:=zh hC;have HS:=zh hs;obtain ⟨c0,c1,c2,c3,c4,-⟩:=hC;clear hs;go_enter Tryz.func18,Tryz.ntmps18;go_wp2_with fail;generalize w.alloc (.cells #[.int .i64 5, .int .i64 v, .int .i64 i, .int .i64 b, .int .i64 (N:Int), .int .u64 pt, .slice da dn dc, .slice ma mn mc] 28)=wA at *
  go_loopw [3,16] (fun u3 u16 wr=> ∃j:Nat,j≤N∧u16= .int .i64 j∧zlo wr wA.heap.size u3 ((List.range j).map fun j:Nat=> (v,b+(j:Int)))∧Below wA.heap.size wA wr) (fun _ u16 _=> N - (intOf u16).toNat)
  case atStart=> exact ⟨0,by omega,rfl,World.ownsRow_nil _ _ _ _,Below.refl _ _⟩
  case round=>
   obtain ⟨j,hj,rfl,Af,FO⟩:=hrel
   by_cases hlt:j < N
   ·obtain ⟨e0,e1,e2,e3,e4,-⟩:=HC.out.below FO (by omega)
    obtain ⟨v',w',BE,ET,BN⟩:=Af.push v (b+(j:Int)) (by simp;omega) FO.size
    have XP:=Below.own FO Af BN zl FO.size;have DU:((List.range j).map fun j:Nat=> (v,b+(j:Int)))++ [(v,b+(j:Int))]=(List.range (j+1)).map fun j:Nat=> (v,b+(j:Int)):=by rw [List.range_succ,List.map_append];rfl
    rw [DU] at ET;have HO:=zh ET;have s1:IntKind.i64.wrap (b+(j:Int))=b+(j:Int):=zw _ (by omega)
    have Bb:(j:Int) < (N:Int):=by omega
    clear Af ET BN DU c0 c1 c2 c3 c4
    go_wp2_with (at_builtin;refine za rfl _ _ _ rfl BE ?_)
    exact ⟨⟨j+1,by omega,by go_num,HO.out,XP⟩,by simp [intOf];omega⟩
   ·obtain rfl:j=N:=by omega
    go_wp2_with fail;go_ret;exact ⟨_,rfl,zsn Af hb.size,hb.trans (FO.mono hb.size)⟩
end
end Go.Proofs.YtfldlfladcfggaaGreat
