/- Lemmas of the walks, merged and pressed by press.py. Conditions: those of each theorem. -/
import Derived.Test.YtaoceecfjlkmdaaGreatM2
import Derived.Test.YtaoceecfjlkmdaaGreatM10
import Derived.Test.YtaoceecfjlkmdaaGreatM4
import Derived.Test.YtaoceecfjlkmdaaGreatM8
set_option maxRecDepth 100000
set_option maxHeartbeats 64000000
set_option linter.all false
namespace Go.Proofs.YtaoceecfjlkmdaaGreat
section
open Go.RowKit
theorem zkf (a b:Nat) (w:World):
 Calls Tryz.prog 45 #[za2 a,za2 b] w fun e w'=> e= .returned (.bool (zj a==zj b && zo a==zo b))∧Below w.heap.size w w':=by
 have hb:Below w.heap.size w ((w.alloc (.cells #[.int .u16 (zj a:Int), .int .u32 (zo a:Int), .int .u64 (zp a:Int)] 111)).alloc (.cells #[.int .u16 (zj b:Int), .int .u32 (zo b:Int), .int .u64 (zp b:Int)] 111)):=(zr.alloc zl _).alloc (by simp) _
 unfold za2
 by_cases h1:zj a=zj b
 ·have e1:((zj a:Int)==(zj b:Int))=true:=by rw [h1];simp
  have f1:(zj a==zj b)=true:=by rw [h1];simp
  by_cases h2:zo a=zo b
  ·have e2:((zo a:Int)==(zo b:Int))=true:=by rw [h2];simp
   have f2:(zo a==zo b)=true:=by rw [h2];simp
   have F:Hid ((zj a==zj b && zo a==zo b)=true):=zh (by rw [f1,f2];rfl)
   clear h1 h2 f1 f2;go_enter Tryz.func45,Tryz.ntmps45;go_wp2_with fail;go_ret;exact ⟨by rw [F.out];rfl,hb⟩
  ·have e2:((zo a:Int)==(zo b:Int))=false:=by rw [beq_eq_false_iff_ne];omega
   have f2:(zo a==zo b)=false:=by rw [beq_eq_false_iff_ne];exact h2
   have F:Hid ((zj a==zj b && zo a==zo b)=false):=zh (by rw [f1,f2];rfl)
   clear h1 h2 f1 f2;go_enter Tryz.func45,Tryz.ntmps45;go_wp2_with fail;go_ret;exact ⟨by rw [F.out];rfl,hb⟩
 ·have e1:((zj a:Int)==(zj b:Int))=false:=by rw [beq_eq_false_iff_ne];omega
  have f1:(zj a==zj b)=false:=by rw [beq_eq_false_iff_ne];exact h1
  have F:Hid ((zj a==zj b && zo a==zo b)=false):=zh (by rw [f1];rfl)
  clear h1 f1;go_enter Tryz.func45,Tryz.ntmps45;go_wp2_with fail;go_ret;exact ⟨by rw [F.out];rfl,hb⟩
theorem zg0 {S:Nat→Prop} {w:World} {d p:Nat} {t:Tr d} (h:zQ w S p t):
 Calls Tryz.prog 164 #[zv p] w fun e w'=> e= .returned (.int .i64 (zH t:Nat))∧w'=w:=by
 obtain ⟨ka,kc,va,vn,vc,ca,cn,cc,AH,-⟩:=h.box;obtain ⟨-,c1,-,-,-⟩:=AH.reads;unfold zv;clear AH h;go_enter Tryz.func164,Tryz.ntmps164;go_wp2_with fail;go_ret;exact ⟨rfl,rfl⟩
end
section
open Go.RowKit
theorem Sl.ptrs {w:World} {a:Option Addr} {n:Nat} {ps:List Nat} (h:Sl w a n (ps.map zv)):zM zcV 1 w a n ps:=
 ⟨by have:=h.1;rwa [List.length_map] at this,fun i r hr=> by
  obtain ⟨b,o,e,h1⟩:=h.2 i (zv r) (by rw [List.getElem?_map,hr];rfl)
  exact ⟨b,o,e,fun j x hx=> by
     have hj:j < 1:=by simpa [zcV] using (zi hx).1
     obtain rfl:j=0:=by omega
     simp [zcV] at hx;subst hx
     simpa using h1⟩⟩
theorem zQ.inner {S:Nat→Prop} {w:World} {d p:Nat} {t:Tr (d+1)} (h:zQ w S p t) (h0:0 < zH t):∃cb co cc ps,w.cell? ⟨p,3,none⟩=some (.slice (some ⟨cb,co,none⟩) (zH t) cc)∧w.cell? ⟨p,0,none⟩=some (.bool false)∧zM zcV 1 w (some ⟨cb,co,none⟩) (zH t) ps∧zat w S ps (zx t)∧S p∧S cb∧zH t≤zH t:=by
 obtain ⟨ka,kc,ca,cc,ps,AH,Eu,Fc,AQ,hk⟩:=h;obtain ⟨y0,-,-,y3,-⟩:=AH.reads;have hr:=Fc.ptrs;obtain ⟨q,hq⟩:∃q,ps[0]? =some q:=⟨_,ze (by rw [AQ];exact h0)⟩
 obtain ⟨b,o,rfl,-⟩:=hr.2 0 q hq;exact ⟨b,o,cc,ps,y3,y0,hr,⟨AQ,hk⟩,AH.self,AH.kids b o rfl,zl⟩
theorem zK.someE {α:Type} {enc:α→List Value} {k:Nat} {e:TypeId} {w:World} {B:Nat} {v:Value} {l:List α} (h:zK enc k e w B v l) (h0:0 < l.length):∃g cap,v= .slice (some ⟨g,0,none⟩) l.length cap∧B≤g∧g < w.heap.size∧l.length≤cap∧zbS enc k e w g cap l:=by
 rcases h.cases with ⟨-,h1⟩ | ⟨g,cap,he,Bc,BF,hR⟩
 ·rw [h1] at h0;simp at h0
 ·exact ⟨g,cap,he,Bc,BF,hR.le,hR⟩
theorem zmF {S:Nat→Prop} {w:World} {p p':Nat} {t t':Tr 0} (ht:zQ w S p t) (N5:zQ w S p' t') (hS:∀j,S j→j < w.heap.size) (h0:0 < zH t') (hn:zH t≤20) (IE:zH t'≤20):
 Calls Tryz.prog 206 #[zv p,zv p'] w fun r w'=> ∃v ps,r= .returned v∧zK zcV 1 157 w' w.heap.size v ps∧zat w' (fun j=> S j∨(w.heap.size≤j∧j < w'.heap.size)) ps (zeb t t')∧Below w.heap.size w w':=by
 obtain ⟨ka,kc,va,vn,vc,ca,cn,cc,AH,Ec⟩:=ht.box;obtain ⟨y0,-,-,-,GM⟩:=AH.reads;have y0':w.cell? ⟨p,0,none⟩=some (.bool true):=y0;have HE:=zh (zbH ht hS (by omega))
 have vE:=zh N5;have hl:zH t=(zS t).length:=rfl;have NG:zH t'=(zS t').length:=rfl;have BK:(zS t).length≤20:=by omega
 have B7:(zS t').length≤20:=by omega
 have KV:0 < (zS t').length:=by omega
 unfold zv at HE ⊢;clear ht N5 AH Ec y0 hl NG hn IE h0;go_enter Tryz.func206,Tryz.ntmps206;go_wp2_with fail;refine HE.out.mono ?_;rintro r w1 ⟨v1,rfl,Ij,Aa⟩;obtain ⟨i0,hi,AG,Ai,Ax⟩:=zW zgi;have LH:=zh (zbH (vE.out.same (zbk.of_below Aa hS)) (fun j hj=> zt (hS j hj) Aa.size) (show zH t'≤1000 by have:zH t'=(zS t').length:=rfl;omega))
 have vF:=zh Ij;have Ak:=zh Aa;unfold zv at LH;clear Ij Aa;go_wp2_with fail;refine LH.out.mono ?_;rintro r w2 ⟨v2,rfl,Ef,Ae⟩;have Qc:=vF.out.below Ae zl;have s1:=Ak.out.size;have s2:=Ae.size;have Cr:=Ak.out.trans (Ae.mono s1);obtain ⟨g2,cap2,rfl,yt,yP,Yx,B0⟩:=Ef.someE KV;obtain ⟨v3,w3,BE,ho,hg⟩:=Qc.app zN (by decide) zbs Tryz.underlying137 hi AG Ai Ax rfl cap2 (B0.row zN) (by omega) (by omega) (show w.heap.size≤w2.heap.size by omega)
 have Am:=Cr.grown hg (by omega) (fun j hj=> by have:=(Qc.lt j hj).1;omega)
 have BG:(zS t++zS t').length=(zS t).length+(zS t').length:=List.length_append;obtain ⟨a3,cap3,rfl,TZ,KF,-⟩:=ho.row zN;have HL:=zh (zee (c:=cap3) TZ KF (by omega))
 have AI:=zh Am;have s3:=Am.size;clear Ef Ae Qc Cr B0 hg ho Am TZ KF hi AG Ai Ax Yx BG;generalize (zS t++zS t').length=n3 at *;generalize (zS t').length=n2 at *
 go_wp2_with (at_builtin;refine za rfl _ _ _ rfl BE ?_)
 refine HL.out.mono ?_;rintro r w4 ⟨v4,ps,rfl,Bf,Jk,Ar⟩;have Kk:=AI.out.trans (Ar.mono s3);have HF:=zh (zn (Bf.base s3) (zn (Jk.more (S':=fun j=> S j∨(w.heap.size≤j∧j < w4.heap.size)) (fun j hj=> .inr ⟨by omega,hj.2⟩)) Kk))
 clear Bf Jk Ar Kk;go_wp2_with fail;go_ret;exact ⟨_,ps,rfl,HF.out.1,HF.out.2.1,HF.out.2.2⟩
theorem zk6 {S:Nat→Prop} {d:Nat} {w:World} {p p':Nat} {t t':Tr (d+1)} (ht:zQ w S p t) (N5:zQ w S p' t') (hS:∀j,S j→j < w.heap.size) (h0:0 < zH t) (OF:0 < zH t') (hn:zH t≤20) (IE:zH t'≤20) (hK:zax t) (QE:zax t'):
 Calls Tryz.prog 206 #[zv p,zv p'] w fun r w'=> ∃v ps,r= .returned v∧zK zcV 1 157 w' w.heap.size v ps∧zat w' (fun j=> S j∨(w.heap.size≤j∧j < w'.heap.size)) ps (zeb t t')∧Below w.heap.size w w':=by
 obtain ⟨cb,co,cc,qs,y3,y0,Ah,Ec,Ma,Kf,-⟩:=ht.inner h0;obtain ⟨cb',co',cc',qs',y3',y0',Bw,Tm,R5,jQ,-⟩:=N5.inner OF;obtain ⟨i0,hi,AG,Ai,Ax⟩:=zW zj1;have Em:∀k ∈ zx t++zx t',0 < zH k:=fun k hk=> by
  rcases List.mem_append.1 hk with h | h
  ·have:=(zag.kid hK h).lo;omega
  ·have:=(zag.kid QE h).lo;omega
 have ao:qs.length=zH t:=Ah.1;have YA:qs'.length=zH t':=Bw.1;have VA:qs.length≤20:=by omega
 have VB:qs'.length≤20:=by omega
 have TW:0 < qs.length:=by omega
 have HC:=zh (zdg (c:=cc) (w:=w.drew) Ah (by omega))
 have Cq:w.drew.cell? ⟨p,3,none⟩=some (.slice (some ⟨cb,co,none⟩) (zH t) cc)∧w.drew.cell? ⟨p',3,none⟩=some (.slice (some ⟨cb',co',none⟩) (zH t') cc'):=⟨y3,y3'⟩;have Bg:∀W,zbk S w W→W.cell? ⟨p,3,none⟩=some (.slice (some ⟨cb,co,none⟩) (zH t) cc)∧W.cell? ⟨p',3,none⟩=some (.slice (some ⟨cb',co',none⟩) (zH t') cc'):=fun W hW=> ⟨(zau hW Ma _).trans y3,(zau hW R5 _).trans y3'⟩;have B9:=zh Bg;have Rm:=zh (Ec.app Tm);have Rv:=zh Bw;have qE:=zh Em;have hp:p < w.heap.size:=hS p Ma;have YQ:p' < w.heap.size:=hS p' R5;unfold zv;clear ht N5 hK QE Ah Ec Bw Tm Em Bg y3 y3' y0' ao YA;generalize zH t=n at *;generalize zH t'=n' at *;go_enter Tryz.func206,Tryz.ntmps206;go_wp2_with fail
 go_region_held_law (fun W'=> W'.cell? ⟨p,3,none⟩=some (.slice (some ⟨cb,co,none⟩) n cc)∧W'.cell? ⟨p',3,none⟩=some (.slice (some ⟨cb',co',none⟩) n' cc'))
  (first | exact Cq | exact B9.out _ (by first | with_reducible exact GQ | with_reducible exact Jq | with_reducible exact GP))
  (first
    | (go_at_call 156
       refine HC.out.mono ?_;rintro r w2 ⟨v2,rfl,Ef,Ae⟩;have Dk:Below w.heap.size w w2:=⟨Ae.os,Ae.tape,Ae.output,Ae.size,Ae.block⟩;have GP:=zbk.of_below Dk hS;have Uu:w.heap.size≤w2.heap.size:=Ae.size;obtain ⟨v3,w3,BE,A6,AM⟩:=Ef.app zE (by decide) zbg Tryz.underlying225 hi AG Ai Ax rfl cc' (Rv.out.below Dk zl) (by omega) (by omega) Uu
       have A4:=Dk.grown AM Uu (fun j hj=> (Ef.lt j hj).1);have Jq:=zbk.of_below A4 hS;obtain ⟨g3,cap3,rfl,yu,yQ,KF,Gv⟩:=A6.someE (by rw [List.length_append];omega)
       have HI:=zh (zea (c:=cap3) (Gv.row zE) KF (by rw [List.length_append];omega) (by rw [List.length_append];omega) (Rm.out.same Jq) qE.out (fun j hj=> zt (hS j hj) A4.size))
       have AI:=zh A4;obtain ⟨m,hm⟩:∃m,(qs++qs').length=m:=⟨_,rfl⟩;rw [hm] at BE HI;clear hm Gv A6 KF AM Ef Ae)
    | (refine zL (o:=⟨some 24,_,_,_,_,_⟩) rfl _ _ 225 225 rfl _ _ rfl rfl BE ?_)
    | (go_at_call 154
       refine HI.out.mono ?_;rintro r w4 ⟨v4,ps,rfl,Bf,Jk,Ar⟩;have Kk:=AI.out.trans (Ar.mono AI.out.size);have GQ:=zbk.of_below Kk hS;have Oa:=AI.out.size;have HF:=zh (zn (Bf.base Oa) (zn (Jk.more (S':=fun j=> S j∨(w.heap.size≤j∧j < w4.heap.size)) (fun j hj=> hj.elim .inl (fun h=> .inr ⟨by omega,h.2⟩))) Kk))))
 all_goals
  clear hi AG Ai Ax;go_wp2_with fail;go_ret;exact ⟨_,ps,rfl,HF.out.1,HF.out.2.1,HF.out.2.2⟩
theorem zn5 {S:Nat→Prop} {d:Nat} {w:World} {p p':Nat} {t t':Tr d} (ht:zQ w S p t) (N5:zQ w S p' t') (hS:∀j,S j→j < w.heap.size) (h0:0 < zH t) (OF:0 < zH t') (hn:zH t≤20) (IE:zH t'≤20) (hK:zax t) (QE:zax t'):
 Calls Tryz.prog 206 #[zv p,zv p'] w fun r w'=> ∃v ps,r= .returned v∧zK zcV 1 157 w' w.heap.size v ps∧zat w' (fun j=> S j∨(w.heap.size≤j∧j < w'.heap.size)) ps (zeb t t')∧Below w.heap.size w w':=by
 cases d with
 | zero=> exact zmF ht N5 hS OF hn IE
 | succ d=> exact zk6 ht N5 hS h0 OF hn IE hK QE
end
section
open Go.RowKit
structure Ext (S:Nat→Prop) (n:Nat) (S':Nat→Prop) (w':World):Prop where
 sub:∀j,S j→S' j
 new:∀j,S' j→S j∨n≤j
 lt:∀j,S' j→j < w'.heap.size
theorem Ext.refl {S:Nat→Prop} {n:Nat} {w:World} (h:∀j,S j→j < w.heap.size):Ext S n S w:=⟨fun _ h=> h,fun _ h=> .inl h,h⟩
theorem Ext.trans {S S1 S2:Nat→Prop} {n n1:Nat} {w1 w2:World} (h:Ext S n S1 w1) (h':Ext S1 n1 S2 w2) (hn:n≤n1):Ext S n S2 w2:=
 ⟨fun j hj=> h'.sub j (h.sub j hj),fun j hj=> (h'.new j hj).elim (h.new j) (fun h=> .inr (by omega)),h'.lt⟩
theorem Ext.later {S S1:Nat→Prop} {n:Nat} {w1 w2:World} (h:Ext S n S1 w1) (hs:w1.heap.size≤w2.heap.size):Ext S n S1 w2:=⟨h.sub,h.new,fun j hj=> zt (h.lt j hj) hs⟩
theorem Ext.mk' {S:Nat→Prop} {n:Nat} {w w':World} (h:∀j,S j→j < w.heap.size) (hs:w.heap.size≤w'.heap.size) (hn:n≤w.heap.size):Ext S n (fun j=> S j∨(w.heap.size≤j∧j < w'.heap.size)) w':=
 ⟨fun _ h=> .inl h,fun _ h=> h.elim .inl (fun h=> .inr (by omega)),fun j hj=> hj.elim (fun hj=> zt (h j hj) hs) (fun h=> h.2)⟩
theorem zi6 {d:Nat} {ks:List (Tr d)} {i:Nat} {c:Tr d} (hc:ks[i]? =some c) (h:3≤zH c∨ks.length < 2):zaA ks i=ks:=by
 unfold zaA
 split
 ·rename_i c' a b h1 h2 h3
  rw [hc] at h1
  cases h1
  rw [if_pos h]
 ·rfl
theorem zi5 {d:Nat} {ks:List (Tr d)} {i:Nat} {c a b:Tr d} (hc:ks[i]? =some c) (ha:ks[i - 1]? =some a) (hb:ks[i - 1+1]? =some b) (h:¬(3≤zH c∨ks.length < 2)):zaA ks i=ks.take (i - 1)++zeb a b++ks.drop (i - 1+2):=by
 unfold zaA;rw [hc,ha,hb];simp only;rw [if_neg h]
theorem zk7 {S:Nat→Prop} {d:Nat} {w:World} {B:Nat} {v:Value} {ps:List Nat} {ks:List (Tr d)} (h:zK zcV 1 157 w B v ps) (hK:zat w S ps ks) (i:Nat) (hi:i < ks.length) (hl:ks.length≤20) (Xs:∀g,v.ownBlock=some g→¬S g) (hS:∀j,S j→j < w.heap.size) (hB:B≤w.heap.size)
 (hA:∀k ∈ ks,2≤zH k∧zH k≤6∧zax k):
 Calls Tryz.prog 163 #[v, .int .i64 (i:Int)] w fun r w'=> ∃v' ps' S',r= .returned v'∧zK zcV 1 157 w' B v' ps'∧zat w' S' ps' (zaA ks i)∧w.grownBy w' v.ownBlock∧Ext S w.heap.size S' w':=by
 have AQ:=hK.1;obtain ⟨c,hc⟩:∃c,ks[i]? =some c:=⟨_,ze hi⟩;obtain ⟨q,hq⟩:∃q,ps[i]? =some q:=⟨_,ze (by omega)⟩
 have Qm:=zh (zg0 (hK.2 i q c hq hc));obtain ⟨g,cap,rfl,Bc,BF,BO,hR⟩:=h.someE (by omega)
 have Ah:=hR.row zE;obtain ⟨b',o',he,cq⟩:=Ah.ptr i q hq
 cases he
 simp only [Nat.zero_add] at cq;have Bb:(i:Int) < (ps.length:Int):=by omega
 have Ps:w.grownBy w (some g):=⟨rfl,rfl,rfl,zl,fun _ _ _=> rfl⟩
 by_cases BT:3≤zH c∨ks.length < 2
 ·have hj:=zi6 hc BT;have HF:=zh (zn h (zn hK (zn Ps (Ext.refl (n:=w.heap.size) hS))));have HJ:=zh hj;have Id:(3:Int)≤(zH c:Int)∨(ps.length:Int) < 2:=by omega
  unfold zv at Qm cq;clear h hK hR Ah hj hA hc hq Xs Ps BT AQ;generalize ps.length=pn at *;generalize zH c=lc at *
  by_cases h3:(3:Int)≤(lc:Int)
  ·clear Id;go_enter Tryz.func163,Tryz.ntmps163;go_wp2_with fail;refine Qm.out.mono ?_;rintro r w2 ⟨rfl,rfl⟩;go_wp2_with fail;go_ret;exact ⟨_,ps,S,rfl,HF.out.1,by rw [HJ.out];exact HF.out.2.1,HF.out.2.2.1,HF.out.2.2.2⟩
  ·have h2:(pn:Int) < 2:=Id.elim (fun h=> absurd h h3) id;clear Id;go_enter Tryz.func163,Tryz.ntmps163;go_wp2_with fail;refine Qm.out.mono ?_;rintro r w2 ⟨rfl,rfl⟩;go_wp2_with fail;go_ret;exact ⟨_,ps,S,rfl,HF.out.1,by rw [HJ.out];exact HF.out.2.1,HF.out.2.2.1,HF.out.2.2.2⟩
 ·obtain ⟨j,hj⟩:∃j,i - 1=j:=⟨_,rfl⟩;have FT:j+1 < ks.length:=by omega
  obtain ⟨ta,JM⟩:∃c,ks[j]? =some c:=⟨_,ze (by omega)⟩
  obtain ⟨tb,Qa⟩:∃c,ks[j+1]? =some c:=⟨_,ze (by omega)⟩
  obtain ⟨qa,Y9⟩:∃c,ps[j]? =some c:=⟨_,ze (by omega)⟩
  obtain ⟨qb,Za⟩:∃c,ps[j+1]? =some c:=⟨_,ze (by omega)⟩
  obtain ⟨b1,o1,X9,ca⟩:=Ah.ptr j qa Y9
  cases X9
  obtain ⟨b2,o2,SN,cb⟩:=Ah.ptr (j+1) qb Za
  cases SN
  simp only [Nat.zero_add] at ca cb;have Yo:=zi5 hc (hj ▸ JM) (by rw [hj];exact Qa) BT
  rw [hj] at Yo;obtain ⟨la1,la2,la3⟩:=hA ta (zm JM);obtain ⟨lb1,lb2,lb3⟩:=hA tb (zm Qa);have BA:=(zhW la3 lb3 la1 (by omega) la2 lb2).len
  have Qk:=zh (zn5 (w:=w.drew) (zQ.same (S:=S) (w:=w) (w':=w.drew) (fun _ _=> rfl) (hK.2 j qa ta Y9 JM)) (zQ.same (S:=S) (w:=w) (w':=w.drew) (fun _ _=> rfl) (hK.2 (j+1) qb tb Za Qa)) hS (by omega) (by omega) (by omega) (by omega) la3 lb3)
  have HR:=zh hR;have HK:=zh hK;have ZI:=zh Yo;have LM:=zh BA;have Tx:max ((i:Int) - 1) 0=(j:Int):=by omega
  have Ab:IntKind.i64.wrap ((i:Int) - 1)=(i:Int) - 1:=zw _ (by omega)
  have GV:IntKind.i64.wrap ((j:Int)+2)=((j+2:Nat):Int):=by rw [zw _ (by omega)];omega
  have Dv:IntKind.i64.wrap ((j:Int)+1)=((j+1:Nat):Int):=by rw [zw _ (by omega)];omega
  have MA:(0:Int)≤(j:Int):=by omega
  have EB:(j:Int) < (ps.length:Int):=by omega
  have EC:((j+1:Nat):Int) < (ps.length:Int):=by omega
  have ND:¬(3:Int)≤(zH c:Int):=by omega
  have Cg:¬(ps.length:Int) < 2:=by omega
  have Cq:w.drew.cell? ⟨g,j,none⟩=some (zv qa)∧w.drew.cell? ⟨g,j+1,none⟩=some (zv qb):=⟨ca,cb⟩;have Bg:∀W,Below w.drew.heap.size w.drew W→W.cell? ⟨g,j,none⟩=some (zv qa)∧W.cell? ⟨g,j+1,none⟩=some (zv qb):=fun W hW=> ⟨(hW.cell (zb _ _ ca)).trans ca,(hW.cell (zb _ _ cb)).trans cb⟩;have B9:=zh Bg;have kz:¬S g:=Xs g rfl;have DJ:j+2≤ps.length:=by omega
  have MK:ps.length≤20:=by omega
  unfold zv at Qm cq Cq B9 Qk;have FA:=zh hj;clear h hK hR Ah hA hc hq Xs Ps BT JM Qa Y9 Za ca cb Yo la1 la2 la3 lb1 lb2 lb3 BA Bg AQ FT hj Tx;have cl:Hid (ps.length=ps.length):=zh rfl;generalize Ly:ps.length=pn at *;have Lj:=zh Ly;clear Ly;generalize zH c=lc at *
  by_cases AD:i=0
  ·obtain rfl:j=0:=by have:=FA.out;omega
   subst AD;simp only [Nat.zero_add] at Cq B9 EC;have MB:(1:Int) < (pn:Int):=by omega
   have b8:(0:Int) < (pn:Int):=by omega
   have S8:1 < pn:=by omega
   have S9:0 < pn:=by omega
   have QQ:2≤pn:=by omega
   have b9:IntKind.i64.wrap 1=1:=by decide
   have Vm:IntKind.i64.wrap 2=2:=by decide
   clear MA EB EC GV Dv Ab;go_enter Tryz.func163,Tryz.ntmps163;go_wp2_with fail;refine Qm.out.mono ?_;rintro r w2 ⟨rfl,rfl⟩;go_wp2_with fail;obtain ⟨VD,IN⟩:=Cq
   go_region_law
        (first
          | (refine zA (o:=⟨some 33,_,_,_,_,_⟩) (by kernel_rfl) 206 Tryz.func206 (by kernel_rfl) rfl _ _ rfl #[.pointer (some ⟨qa,0,none⟩), .pointer (some ⟨qb,0,none⟩)] (by simp [Act.eval]) Qk.out ?_
             rintro r w5 ⟨v5,qs,rfl,AV,CR,Ag⟩;have Hu:Below w2.heap.size w2 w5:=⟨Ag.os,Ag.tape,Ag.output,Ag.size,Ag.block⟩;have P7:w2.heap.size≤w5.heap.size:=Ag.size;have IK:qs.length=(zeb ta tb).length:=CR.1;have VA:=LM.out;obtain ⟨g5,cap5,rfl,FN,EQ,C4,Db⟩:=AV.someE (by omega)
             have Sm:w2.heap.size≤g5:=FN;obtain ⟨cur5,FG,EN,-⟩:=Db.ex;have R3:=(HR.out.heap (w':=w5) (Hu.block g BF));have II:=R3.own zE Bc;rw [Lj.out] at II;have Zh:=(zcF (c2:=cap5) II 0 (0+2) (by omega) (by rw [Lj.out];omega) (by rw [Lj.out];omega) (Db.row zE) (by omega) (by omega) (by omega) FG (by rw [EN];omega) (show some g≠some g5 from fun e=> by have:=Option.some.inj e;omega) (by omega))
             rw [show ((0:Nat):Int)=0 from rfl,show ((0+2:Nat):Int)=2 from rfl] at Zh;have LO:=zh Zh;clear Zh;have A8:=zh Hu;have Oj:=zh CR;have C1:=zh (Ext.mk' (n:=w2.heap.size) (w:=w2) (w':=w5) hS P7 zl);generalize qs.length=ql at *;clear AV CR Hu C4 Db FG EN R3 II IK VA;refine ⟨_,rfl, ?_⟩)
          | (refine zA (o:=⟨some 34,_,_,_,_,_⟩) (by kernel_rfl) 155 Tryz.func155 (by kernel_rfl) rfl _ _ rfl #[.slice (some ⟨g,0,none⟩) pn cap, .int .i64 0, .int .i64 2, .slice (some ⟨g5,0,none⟩) ql cap5] (by simp [Act.eval]) LO.out ?_
             rintro r w6 ⟨v6,rfl,Bv,AX⟩;refine ⟨_,rfl, ?_⟩))
   all_goals
        have TA:∀jj,(S jj∨(w2.heap.size≤jj∧jj < w5.heap.size))→w6.heap[jj]? =w5.heap[jj]? :=fun jj NC=> by
         have Py:=C1.out.lt jj NC;refine AX.block jj Py (fun e=> ?_);have:jj=g:=Option.some.inj e;subst this;rcases NC with h | h
         ·exact kz h
         ·omega
        have Gt:zat w6 (fun j=> S j∨(w2.heap.size≤j∧j < w5.heap.size)) (ps.take 0++(qs++ps.drop (0+2))) (zaA ks 0):=by
         rw [ZI.out,List.append_assoc];have BX:zat w5 (fun j=> S j∨(w2.heap.size≤j∧j < w5.heap.size)) ps ks:=(HK.out.same (zbk.of_below A8.out hS)).more (fun _ h=> .inl h);exact ((BX.take 0).app (Oj.out.app (BX.drop (0+2)))).same TA
        have GG:w2.grownBy w6 (some g):=⟨AX.os.trans A8.out.os,AX.tape.trans A8.out.tape,AX.output.trans A8.out.output,zs A8.out.size AX.size,fun jj hj Aj=> (AX.block jj (zt hj A8.out.size) Aj).trans (A8.out.block jj hj)⟩;have HF:=zh (zn Bv (zn Gt (zn GG (C1.out.later AX.size))));clear TA Gt GG Bv AX;go_wp2_with fail;go_ret;exact ⟨_,_,_,rfl,HF.out.1,HF.out.2.1,HF.out.2.2.1,HF.out.2.2.2⟩
  ·have b7:(0:Int)≤(i:Int) - 1:=by omega
   have yW:(0:Int)≤(j:Int)+1:=by omega
   have yX:(j:Int)+1 < (pn:Int):=by omega
   have Fr:(i:Int) - 1=(j:Int):=by have:=FA.out;omega
   go_enter Tryz.func163,Tryz.ntmps163;go_wp2_with fail;refine Qm.out.mono ?_;rintro r w2 ⟨rfl,rfl⟩;go_wp2_with fail;obtain ⟨VD,IN⟩:=Cq
   go_region_law
        (first
          | (refine zA (o:=⟨some 33,_,_,_,_,_⟩) (by kernel_rfl) 206 Tryz.func206 (by kernel_rfl) rfl _ _ rfl #[.pointer (some ⟨qa,0,none⟩), .pointer (some ⟨qb,0,none⟩)] (by simp [Act.eval]) Qk.out ?_
             rintro r w5 ⟨v5,qs,rfl,AV,CR,Ag⟩;have Hu:Below w2.heap.size w2 w5:=⟨Ag.os,Ag.tape,Ag.output,Ag.size,Ag.block⟩;have P7:w2.heap.size≤w5.heap.size:=Ag.size;have IK:qs.length=(zeb ta tb).length:=CR.1;have VA:=LM.out;obtain ⟨g5,cap5,rfl,FN,EQ,C4,Db⟩:=AV.someE (by omega)
             have Sm:w2.heap.size≤g5:=FN;obtain ⟨cur5,FG,EN,-⟩:=Db.ex;have R3:=(HR.out.heap (w':=w5) (Hu.block g BF));have II:=R3.own zE Bc;rw [Lj.out] at II;have LO:=zh (zcF (c2:=cap5) II j (j+2) (by omega) (by rw [Lj.out];omega) (by rw [Lj.out];omega) (Db.row zE) (by omega) (by omega) (by omega) FG (by rw [EN];omega) (show some g≠some g5 from fun e=> by have:=Option.some.inj e;omega) (by omega))
             have A8:=zh Hu;have Oj:=zh CR;have C1:=zh (Ext.mk' (n:=w2.heap.size) (w:=w2) (w':=w5) hS P7 zl);generalize qs.length=ql at *;clear AV CR Hu C4 Db FG EN R3 II IK VA;refine ⟨_,rfl, ?_⟩)
          | (refine zA (o:=⟨some 34,_,_,_,_,_⟩) (by kernel_rfl) 155 Tryz.func155 (by kernel_rfl) rfl _ _ rfl #[.slice (some ⟨g,0,none⟩) pn cap, .int .i64 (j:Int), .int .i64 ((j+2:Nat):Int), .slice (some ⟨g5,0,none⟩) ql cap5] (by simp [Act.eval]) LO.out ?_
             rintro r w6 ⟨v6,rfl,Bv,AX⟩;refine ⟨_,rfl, ?_⟩))
   all_goals
        have TA:∀jj,(S jj∨(w2.heap.size≤jj∧jj < w5.heap.size))→w6.heap[jj]? =w5.heap[jj]? :=fun jj NC=> by
         have Py:=C1.out.lt jj NC;refine AX.block jj Py (fun e=> ?_);have:jj=g:=Option.some.inj e;subst this;rcases NC with h | h
         ·exact kz h
         ·omega
        have Gt:zat w6 (fun j=> S j∨(w2.heap.size≤j∧j < w5.heap.size)) (ps.take j++(qs++ps.drop (j+2))) (zaA ks i):=by
         rw [ZI.out,List.append_assoc];have BX:zat w5 (fun j=> S j∨(w2.heap.size≤j∧j < w5.heap.size)) ps ks:=(HK.out.same (zbk.of_below A8.out hS)).more (fun _ h=> .inl h);exact ((BX.take j).app (Oj.out.app (BX.drop (j+2)))).same TA
        have GG:w2.grownBy w6 (some g):=⟨AX.os.trans A8.out.os,AX.tape.trans A8.out.tape,AX.output.trans A8.out.output,zs A8.out.size AX.size,fun jj hj Aj=> (AX.block jj (zt hj A8.out.size) Aj).trans (A8.out.block jj hj)⟩;have HF:=zh (zn Bv (zn Gt (zn GG (C1.out.later AX.size))));clear TA Gt GG Bv AX;go_wp2_with fail;go_ret;exact ⟨_,_,_,rfl,HF.out.1,HF.out.2.1,HF.out.2.2.1,HF.out.2.2.2⟩
end
section
open Go.RowKit
inductive UpT (w:World) (S:Nat→Prop) (k:Nat) {d:Nat} (t:Tr d):List (Nat × Nat)→(m:Nat)→Tr m→Prop
 | top:UpT w S k t [] d t
 | step {pre:List (Nat × Nat)} {m p:Nat} {u:Tr (m+1)} {c:Tr m}:UpT w S k t pre (m+1) u→zQ w S p u→(zx u)[zP (zC u) k]? =some c→UpT w S k t (pre++ [(p,zP (zC u) k)]) m c
theorem UpT.end {w:World} {S:Nat→Prop} {k d:Nat} {t:Tr d} {l:List (Nat × Nat)} {m:Nat} {s:Tr m} (h:UpT w S k t l m s) (hl:l= []):(⟨m,s⟩:(d:Nat) × Tr d)=⟨d,t⟩:=by
 cases h with
 | top=> rfl
 | step h1 h2 h3=> simp at hl
theorem UpT.last {w:World} {S:Nat→Prop} {k d:Nat} {t:Tr d} {l:List (Nat × Nat)} {m:Nat} {s:Tr m} (h:UpT w S k t l m s) {pre:List (Nat × Nat)} {p i:Nat} (hl:l=pre++ [(p,i)]):
 ∃u:Tr (m+1),UpT w S k t pre (m+1) u∧zQ w S p u∧i=zP (zC u) k∧(zx u)[i]? =some s:=by
 cases h with
 | top=> simp at hl
 | step h1 h2 h3=>
   obtain ⟨rfl,h5⟩:=List.append_inj' hl rfl;simp only [List.cons.injEq,Prod.mk.injEq,and_true] at h5;obtain ⟨rfl,rfl⟩:=h5;exact ⟨_,h1,h2,rfl,h3⟩
theorem UpT.same {w w':World} {S:Nat→Prop} {k d:Nat} {t:Tr d} (hs:zbk S w w') {l:List (Nat × Nat)} {m:Nat} {s:Tr m} (h:UpT w S k t l m s):UpT w' S k t l m s:=by
 induction h with
 | top=> exact .top
 | step _ h2 h3 ih=> exact .step ih (h2.same hs) h3
theorem UpT.good {w:World} {S:Nat→Prop} {k d:Nat} {t:Tr d} (h0:0 < zH t) (h6:zH t≤6) (hK:zax t) (hr:zac (flatT t)) {l:List (Nat × Nat)} {m:Nat} {s:Tr m} (h:UpT w S k t l m s):0 < zH s∧zH s≤6∧zax s∧zac (flatT s)∧l.length+m=d:=by
 induction h with
 | top=> exact ⟨h0,h6,hK,hr,by simp⟩
 | step _ _ h3 ih=>
   obtain ⟨i1,i2,i3,i4,i5⟩:=ih;have hm:=zm h3;have hF:=zag.kid i3 hm;exact ⟨by have:=hF.lo;omega,hF.hi,hF.kids,zbu i4 hm,by simp;omega⟩
theorem zf2.up {w:World} {S:Nat→Prop} {k d:Nat} {t:Tr d}:∀{d':Nat} {p':Nat} {t':Tr d'} {pre path:List (Nat × Nat)} {pl:Nat} {lt:Tr 0},UpT w S k t pre d' t'→zf2 w S k p' t' path pl lt→UpT w S k t (pre++path) 0 lt∧zQ w S pl lt
 | 0,p',t',pre,path,pl,lt,h,hw=> by
   obtain ⟨rfl,rfl,rfl,h4⟩:=hw;exact ⟨by rw [List.append_nil];exact h,h4⟩
 | d'+1,p',t',pre,path,pl,lt,h,hw=> by
   obtain ⟨h0,q,c,path',rfl,h2,h3,h4⟩:=hw;have:=zf2.up (UpT.step h h0 h2) h4;rw [List.append_assoc] at this;exact this
theorem zdJ:∀{d:Nat} {t:Tr d},zag t→3 ^ (d+1)≤(flatT t).length
 | 0,t,h=> by
   have h1:3≤(flatT t).length:=h.lo
   simpa using h1
 | d + 1,t,h=> by
   have hk:∀(l:List (Tr d)),(∀k ∈ l,zag k)→l.length * 3 ^ (d+1)≤(l.flatMap flatT).length:=fun l=> by
     induction l with
     | nil=> intro _;simp
     | cons x l ih=>
       intro hf;have h1:=zdJ (hf x (List.mem_cons_self ..));have h2:=ih (fun k hk=> hf k (List.mem_cons_of_mem _ hk));rw [List.flatMap_cons,List.length_append,List.length_cons,Nat.add_mul]
       omega
   have h1:=hk (zx t) (fun k hk=> zag.kid h.kids hk);have h2:3≤(zx t).length:=h.lo;have h3:3 * 3 ^ (d+1)≤(zx t).length * 3 ^ (d+1):=Nat.mul_le_mul_right _ h2;have h4:(flatT t).length=((zx t).flatMap flatT).length:=rfl;rw [show 3 ^ (d+1+1)=3 * 3 ^ (d+1) by rw [Nat.pow_succ,Nat.mul_comm],h4]
   omega
structure zcM {d:Nat} (t:Tr d):Prop where
 lo:0 < zH t
 hi:zH t≤6
 kids:zax t
 two:d=0∨2≤zH t
theorem zcM.depth {d:Nat} {t:Tr d} (h:zcM t) (hl:(flatT t).length≤2000):d≤10:=by
 cases d with
 | zero=> omega
 | succ d=>
   have h2:2≤(zx t).length:=by
    rcases h.two with h2 | h2
    ·omega
    ·exact h2
   obtain ⟨c,hc⟩:∃c,(zx t)[0]? =some c:=⟨_,ze (by omega)⟩
   have hm:=zm hc;have h3:=zdJ (zag.kid h.kids hm);have h4:=zbK (zx t) 0 c hc;have h5:(flatT t).length=((zx t).flatMap flatT).length:=rfl;rw [h5,h4,List.length_append,List.length_append] at hl;rcases Nat.lt_or_ge d 10 with hd | hd
   ·omega
   ·have h6:3 ^ 11≤3 ^ (d+1):=Nat.pow_le_pow_right (by decide) (by omega)
    have h7:(3:Nat) ^ 11=177147:=by decide
    omega
structure za5 (w:World) (S:Nat→Prop) (pt:Nat) (l:List En):Prop where
 rise:zac l
 lt:∀j,S j→j < w.heap.size
 apart:¬S pt
 has:(l= []∧zaw w pt none 0)∨∃(d p:Nat) (t:Tr d),zaw w pt (some p) l.length∧zQ w S p t∧zcM t∧flatT t=l
theorem za5.same {w w':World} {S:Nat→Prop} {pt:Nat} {l:List En} (h:za5 w S pt l) (hs:zbk S w w') (hp:w'.heap[pt]? =w.heap[pt]?) (hz:w.heap.size≤w'.heap.size):za5 w' S pt l:=by
 refine ⟨h.rise,fun j hj=> zt (h.lt j hj) hz,h.apart, ?_⟩;rcases h.has with ⟨h1,h2⟩ | ⟨d,p,t,h1,h2,h3,h4⟩
 ·exact .inl ⟨h1,hp.trans h2⟩
 ·exact .inr ⟨d,p,t,hp.trans h1,h2.same hs,h3,h4⟩
theorem za5.ptlt {w:World} {S:Nat→Prop} {pt:Nat} {l:List En} (h:za5 w S pt l):pt < w.heap.size:=by
 rcases h.has with ⟨-,h2⟩ | ⟨d,p,t,h1,-⟩
 ·exact (zg h2).1
 ·exact (zg h1).1
theorem zon {d:Nat} {t:Tr d} (h:zcM t) (hr:zac (flatT t)) (e:En):(∃a,zho t e= [a]∧zcM a∧flatT a=zaR (flatT t) e)∨∃a b,zho t e= [a,b]∧zcM (mkT [a,b])∧flatT (mkT [a,b])=zaR (flatT t) e∧0 < zH a∧0 < zH b:=by
 have hf:=zkg h.lo h.kids hr e;rcases zhd h.lo h.hi h.kids hr e with ⟨a,h1,h2,h3,h4⟩ | ⟨a,b,h1,h2,h3⟩
 ·rw [h1] at hf;refine .inl ⟨a,h1,⟨by have:=h.lo;omega,h3,h4, ?_⟩,by simpa using hf⟩
  rcases h.two with h5 | h5
  ·exact .inl h5
  ·exact .inr (by omega)
 ·rw [h1] at hf;refine .inr ⟨a,b,h1,⟨by show 0 < 2;omega,by show 2≤6;omega, ?_, .inr (by show 2≤2;omega)⟩,hf,by have:=h2.lo;omega,by have:=h3.lo;omega⟩
  rw [zbL];intro k hk;rcases List.mem_cons.1 hk with rfl | hk
  ·exact h2
  ·rcases List.mem_cons.1 hk with rfl | hk
   ·exact h3
   ·simp at hk
end
section
open Go.RowKit
def zap:{d:Nat}→Tr d→List (Tr 0)
 | 0,t=> [t]
 | _+1,t=> (zx t).flatMap zap
def zF:{d:Nat}→Tr d→Nat→List (Tr 0)
 | 0,t,_=> [t]
 | _+1,t,k=> ((zx t)[zP (zC t) k]?.map fun c=> zF c k).getD []++((zx t).drop (zP (zC t) k+1)).flatMap zap
theorem zft:{d:Nat}→(t:Tr d)→(zap t).flatMap zS=flatT t
 | 0,t=> by show [t].flatMap zS=zS t;simp
 | d+1,t=> by
   show ((zx t).flatMap zap).flatMap zS=(zx t).flatMap flatT
   rw [List.flatMap_assoc]
   congr 1
   funext c
   exact zft c
theorem zcY:{d:Nat}→{t:Tr d}→0 < zH t→zax t→zac (flatT t)→(k:Nat)→∃a,flatT t=a++(zF t k).flatMap zS∧∀x ∈ a,x.1 < k
 | 0,t,_,_,_,k=> ⟨[],by show zS t= []++ [t].flatMap zS;simp,fun x hx=> by simp at hx⟩
 | d + 1,t,h0,hK,hr,k=> by
   obtain ⟨c,hc⟩:=zcA h0 k;obtain ⟨m1,m2,-⟩:=zfr hK hr k hc;have hm:=zm hc;have hF:=zag.kid hK hm;obtain ⟨a,ha,hlt⟩:=zcY (by have:=hF.lo;omega) hF.kids (zbu hr hm) k
   refine ⟨((zx t).take (zP (zC t) k)).flatMap flatT++a, ?_,fun x hx=> ?_⟩
   ·have T1:(((zx t).drop (zP (zC t) k+1)).flatMap zap).flatMap zS=((zx t).drop (zP (zC t) k+1)).flatMap flatT:=by
       rw [List.flatMap_assoc]
       congr 1
       funext c
       exact zft c
    rw [show flatT t=(zx t).flatMap flatT from rfl,zbK (zx t) _ c hc,ha,zF,hc];simp only [Option.map_some,Option.getD_some,List.flatMap_append,T1,List.append_assoc]
   ·rcases List.mem_append.1 hx with h | h
    ·exact m1 x h
    ·exact hlt x h
inductive zdq (w:World) (S:Nat→Prop) (D:Nat):List (Nat × Nat)→List (Tr 0)→Prop
 | nil:zdq w S D [] []
 | snoc {stk:List (Nat × Nat)} {L:List (Tr 0)} {m p i:Nat} {u:Tr (m+1)}:zdq w S D stk L→zQ w S p u→zax u→zH u≤6→i≤zH u→stk.length+(m+1)≤D→zdq w S D (stk++ [(p,i)]) (((zx u).drop i).flatMap zap++L)
theorem zdq.last {w:World} {S:Nat→Prop} {D:Nat} {stk:List (Nat × Nat)} {L:List (Tr 0)} (h:zdq w S D stk L) {stk':List (Nat × Nat)} {p i:Nat} (hs:stk=stk'++ [(p,i)]):
 ∃(m:Nat) (u:Tr (m+1)) (L':List (Tr 0)),zdq w S D stk' L'∧zQ w S p u∧zax u∧zH u≤6∧i≤zH u∧stk'.length+(m+1)≤D∧L=((zx u).drop i).flatMap zap++L':=by
 cases h with
 | nil=> simp at hs
 | snoc h1 h2 h3 h4 h5 h6=>
   obtain ⟨rfl,h7⟩:=List.append_inj' hs rfl;simp only [List.cons.injEq,Prod.mk.injEq,and_true] at h7;obtain ⟨rfl,rfl⟩:=h7;exact ⟨_,_,_,h1,h2,h3,h4,h5,h6,rfl⟩
theorem zdq.empty {w:World} {S:Nat→Prop} {D:Nat} {L:List (Tr 0)} (h:zdq w S D [] L):L= []:=by
 generalize hs:([]:List (Nat × Nat))=stk at h
 cases h with
 | nil=> rfl
 | snoc h1=> simp at hs
theorem zhK {m:Nat} (u:Tr (m+1)) (i:Nat) (c:Tr m) (hc:(zx u)[i]? =some c):((zx u).drop i).flatMap zap=zap c++((zx u).drop (i+1)).flatMap zap:=by
 obtain ⟨hi,rfl⟩:=zi hc;rw [List.drop_eq_getElem_cons hi,List.flatMap_cons]
theorem zi7 {d:Nat} (t:Tr (d+1)) (c:Tr d) (hc:(zx t)[0]? =some c):zap t=zap c++((zx t).drop 1).flatMap zap:=by
 have:=zhK t 0 c hc;rw [List.drop_zero] at this;exact this
theorem zka {w:World} {q:Nat} {l:List (Nat × Nat)} (h:zO w q l):
 Calls Tryz.prog 204 #[zv q] w fun e w'=> ∃(op:Option Addr) (iv:Int),e= .returned (.tuple #[.agg #[.pointer op, .int .i64 iv], .bool (decide (l≠ []))])∧w.grownBy w' (some q)∧
  ((l= []∧zO w' q [])∨∃(l':List (Nat × Nat)) (p i:Nat),l=l'++ [(p,i)]∧op=some ⟨p,0,none⟩∧iv=i∧zO w' q l'):=by
 rcases List.eq_nil_or_concat l with rfl | ⟨l',x,rfl⟩
 ·refine (zfX h).mono ?_;rintro e w' ⟨rfl,hb⟩;exact ⟨none,0,rfl,⟨hb.os,hb.tape,hb.output,hb.size,fun j hj _=> hb.block j hj⟩, .inl ⟨rfl,h.heap (hb.block q h.lt)⟩⟩
 ·obtain ⟨p,i⟩:=x;rw [List.concat_eq_append] at h ⊢;refine (zfY h).mono ?_;rintro e w' ⟨rfl,hs,hg⟩;refine ⟨some ⟨p,0,none⟩,i, ?_,hg, .inr ⟨l',p,i,rfl,rfl,rfl,hs⟩⟩;rw [decide_eq_true (by simp)]
  rfl
end
section
open Go.RowKit
theorem UpT.get {w:World} {S:Nat→Prop} {k d:Nat} {t:Tr d} (h0:0 < zH t) (h6:zH t≤6) (hK:zax t) (hr:zac (flatT t)) {l:List (Nat × Nat)} {m:Nat} {s:Tr m} (h:UpT w S k t l m s):zdi (flatT t) k=zdi (flatT s) k:=by
 induction h with
 | top=> rfl
 | @step pre m p u c hu _ h3 ih=>
   obtain ⟨g1,g2,g3,g4,-⟩:=hu.good h0 h6 hK hr;obtain ⟨m1,m2,-⟩:=zfr g3 g4 k h3;rw [ih,show flatT u=(zx u).flatMap flatT from rfl,zbK (zx u) _ c h3,zjW m1 m2]
theorem ziX (l:List En) (k:Nat):(zdi l k).isSome=decide (k ∈ l.map (·.1)):=by
 induction l with
 | nil=> simp [zdi]
 | cons x l ih=>
   rw [zdi]
   by_cases h:x.1=k
   ·rw [if_pos h];simp [h]
   ·rw [if_neg h,ih];have:(k ∈ (x::l).map (·.1))↔k ∈ l.map (·.1):=by
        rw [List.map_cons,List.mem_cons];exact ⟨fun h2=> h2.elim (fun e=> absurd e.symm h) id, .inr⟩
    rw [decide_eq_decide];exact this.symm
theorem zpy {m:Nat} {u:Tr (m+1)} {s:Tr m} (e:En) (h:(zx u)[zP (zC u) e.1]? =some s):zho u e=zbv mkT ((zx u).take (zP (zC u) e.1)++(zho s e++(zx u).drop (zP (zC u) e.1+1))):=by
 rw [zho,h,List.append_assoc];rfl
theorem zo4 {m:Nat} {u:Tr (m+1)} {s:Tr m} (k:Nat) (h:(zx u)[zP (zC u) k]? =some s):zir u k=zbv mkT (zaA ((zx u).take (zP (zC u) k)++(zir s k++(zx u).drop (zP (zC u) k+1))) (zP (zC u) k)):=by
 rw [zir,h,List.append_assoc];rfl
theorem zg5 {w:World} {q:Nat} {l:List (Nat × Nat)} (h:zZ w q l):
 Calls Tryz.prog 153 #[zv q] w fun e w'=> ∃(op:Option Addr) (iv:Int),e= .returned (.tuple #[.agg #[.pointer op, .int .i64 iv], .bool (decide (l≠ []))])∧w.grownBy w' (some q)∧
  ((l= []∧zZ w' q [])∨∃(l':List (Nat × Nat)) (p i:Nat),l=l'++ [(p,i)]∧op=some ⟨p,0,none⟩∧iv=i∧zZ w' q l'):=by
 rcases List.eq_nil_or_concat l with rfl | ⟨l',x,rfl⟩
 ·refine (zhe h).mono ?_;rintro e w' ⟨rfl,hb⟩;exact ⟨none,0,rfl,⟨hb.os,hb.tape,hb.output,hb.size,fun j hj _=> hb.block j hj⟩, .inl ⟨rfl,h.heap (hb.block q h.lt)⟩⟩
 ·obtain ⟨p,i⟩:=x;rw [List.concat_eq_append] at h ⊢;refine (zhf h).mono ?_;rintro e w' ⟨rfl,hs,hg⟩;refine ⟨some ⟨p,0,none⟩,i, ?_,hg, .inr ⟨l',p,i,rfl,rfl,rfl,hs⟩⟩;rw [decide_eq_true (by simp)]
  rfl
structure zlR {d:Nat} (w:World) (S0:Nat→Prop) (n0 k:Nat) (t:Tr d) (f:{m:Nat}→Tr m→List (Tr m)) (q xb:Nat) (v okv:Value) (pre:List (Nat × Nat)) (W:World):Prop where
 ok:okv= .bool (!decide (pre= []))
 at':∃(m:Nat) (s:Tr m) (ps:List Nat) (S:Nat→Prop),UpT w S0 k t pre m s∧zK zcV 1 157 W n0 v ps∧zat W S ps (f s)∧Ext S0 n0 S W∧¬S q
 cell:∃op iv,W.heap[xb]? =some (.cells #[.pointer op, .int .i64 iv] 223 (0,0))∧(pre= []∨∃(l:List (Nat × Nat)) (p i:Nat),pre=l++ [(p,i)]∧op=some ⟨p,0,none⟩∧iv=i∧zZ W q l)
 below:Below n0 w W
 qn:n0≤q
 xn:n0≤xb
 ql:q < W.heap.size
theorem zeU {w:World} {g:Nat} {x0 x1:Value} {t:TypeId} (h:w.heap[g]? =some (.cells #[x0,x1] t (0,0))) (a b:Value):((w.setCell ⟨g,0,none⟩ a).setCell ⟨g,1,none⟩ b).heap[g]? =some (.cells #[a,b] t (0,0)):=by
 have e1:=heap_setCell_same w g 0 _ t a h;have e2:=heap_setCell_same (w.setCell ⟨g,0,none⟩ a) g 1 _ t b e1;exact e2
theorem ze0 (w:World) (g:Nat) (a b:Value):zcN g w ((w.setCell ⟨g,0,none⟩ a).setCell ⟨g,1,none⟩ b):=
 ⟨rfl,rfl,rfl,by simp,fun j hj=> by rw [heap_setCell_other _ _ j _ hj,heap_setCell_other _ _ j _ hj]⟩
theorem zlR.laid {d:Nat} {w:World} {S0:Nat→Prop} {n0 k:Nat} {t:Tr d} {f:{m:Nat}→Tr m→List (Tr m)} {q xb:Nat} {v:Value} {l:List (Nat × Nat)} {W W2:World} {op:Option Addr} {iv:Int}
 {m:Nat} {s:Tr m} {ps:List Nat} {S:Nat→Prop} (Jt:UpT w S0 k t l m s) (Af:zK zcV 1 157 W n0 v ps) (Ec:zat W S ps (f s)) (SS:Ext S0 n0 S W) (hq:¬S q) (Lc:v.ownBlock≠some q)
 (hg:W.grownBy W2 (some q)) (hx:W2.heap[xb]? =some (.cells #[.pointer op, .int .i64 iv] 223 (0,0))) (Fw:l= []∨∃(l':List (Nat × Nat)) (p i:Nat),l=l'++ [(p,i)]∧op=some ⟨p,0,none⟩∧iv=i∧zZ W2 q l')
 (hb:Below n0 w W) (IL:n0≤q) (hW:n0≤W.heap.size) (IK:q < W.heap.size) (Q8:W.heap.size≤xb):
 zlR w S0 n0 k t f q xb v (.bool (!decide (l= []))) l W2:=by
 have hlt:=SS.lt;have hs:zbk S W W2:=fun j hj=> hg.block j (hlt j hj) (fun e=> hq (Option.some.inj e ▸ hj));exact ⟨rfl,⟨m,s,ps,S,Jt,Af.kept hg (.inr Lc),Ec.same hs,SS.later hg.size,hq⟩,⟨op,iv,hx,Fw⟩,hb.grown hg hW (fun j hj=> by cases hj;exact IL),IL,by omega,zt IK hg.size⟩
end
end Go.Proofs.YtaoceecfjlkmdaaGreat
