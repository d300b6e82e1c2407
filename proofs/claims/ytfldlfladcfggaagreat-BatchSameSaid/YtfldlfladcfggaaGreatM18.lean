/- Lemmas of the walks, merged and pressed by press.py. Conditions: those of each theorem. -/
import Derived.Test.YtfldlfladcfggaaGreatM17
import Derived.OwnWalk
import Derived.Test.YtfldlfladcfggaaGreatM2
import Derived.Test.YtfldlfladcfggaaGreatM14
import Derived.Test.YtfldlfladcfggaaGreatM16
import Derived.Test.YtfldlfladcfggaaGreatM15
import Derived.Shelf.Abstract
import Derived.Shelf.RegionOpen
import Derived.OwnWalkIn
import Derived.TacticsInMore
import Derived.LoopNIn
import Derived.LoopIn
set_option maxRecDepth 100000
set_option maxHeartbeats 64000000
set_option linter.all false
namespace Go.Proofs.YtfldlfladcfggaaGreat
section
open Go.RowKit
def zat {d:Nat} (w:World) (S:Nat→Prop) (ps:List Nat) (ks:List (Tr d)):Prop:=ps.length=ks.length∧∀(i q:Nat) (k:Tr d),ps[i]? =some q→ks[i]? =some k→zQ w S q k
theorem zat.one {d:Nat} {w:World} {S:Nat→Prop} {p:Nat} {t:Tr d} (h:zQ w S p t):zat w S [p] [t]:=⟨rfl,fun i q k hq hk=> by
 have hi:i < 1:=by simpa using (zi hq).1
 obtain rfl:i=0:=by omega
 simp at hq hk;subst hq;subst hk;exact h⟩
theorem zat.two {d:Nat} {w:World} {S:Nat→Prop} {p p':Nat} {t t':Tr d} (h:zQ w S p t) (h':zQ w S p' t'):zat w S [p,p'] [t,t']:=⟨rfl,fun i q k hq hk=> by
 have hi:i < 2:=by simpa using (zi hq).1
 cases i with
 | zero=> simp at hq hk;subst hq;subst hk;exact h
 | succ i=>
   obtain rfl:i=0:=by omega
   simp at hq hk;subst hq;subst hk;exact h'⟩
theorem zat.more {d:Nat} {w:World} {S S':Nat→Prop} {ps:List Nat} {ks:List (Tr d)} (h:zat w S ps ks) (hs:∀j,S j→S' j):zat w S' ps ks:=⟨h.1,fun i q k hq hk=> (h.2 i q k hq hk).more hs⟩
theorem zat.same {d:Nat} {w w':World} {S:Nat→Prop} {ps:List Nat} {ks:List (Tr d)} (h:zat w S ps ks) (hs:zbk S w w'):zat w' S ps ks:=⟨h.1,fun i q k hq hk=> (h.2 i q k hq hk).same hs⟩
theorem zat.take {d:Nat} {w:World} {S:Nat→Prop} {ps:List Nat} {ks:List (Tr d)} (h:zat w S ps ks) (n:Nat):zat w S (ps.take n) (ks.take n):=⟨by rw [List.length_take,List.length_take,h.1],fun i q k hq hk=> by
 have hi:i < n:=by
  have:=(zi hq).1;rw [List.length_take] at this;omega
 rw [List.getElem?_take_of_lt hi] at hq hk;exact h.2 i q k hq hk⟩
theorem zat.drop {d:Nat} {w:World} {S:Nat→Prop} {ps:List Nat} {ks:List (Tr d)} (h:zat w S ps ks) (n:Nat):zat w S (ps.drop n) (ks.drop n):=⟨by rw [List.length_drop,List.length_drop,h.1],fun i q k hq hk=> by
 rw [List.getElem?_drop] at hq hk;exact h.2 _ q k hq hk⟩
theorem zat.app {d:Nat} {w:World} {S:Nat→Prop} {ps ps':List Nat} {ks ks':List (Tr d)} (h:zat w S ps ks) (h':zat w S ps' ks'):zat w S (ps++ps') (ks++ks'):=⟨by rw [List.length_append,List.length_append,h.1,h'.1],fun i q k hq hk=> by
 by_cases hi:i < ps.length
 ·rw [List.getElem?_append_left hi] at hq;rw [List.getElem?_append_left (by rw [← h.1];exact hi)] at hk
  exact h.2 i q k hq hk
 ·rw [List.getElem?_append_right (by omega)] at hq
  rw [List.getElem?_append_right (by rw [← h.1];omega),← h.1] at hk
  exact h'.2 _ q k hq hk⟩
theorem zmX (w:World) (B p:Nat) (hB:B≤w.heap.size):zK zcV 1 98 (w.alloc (.cells #[.pointer (some ⟨p,0,none⟩)] 98)) B (.slice (some ⟨w.heap.size,0,none⟩) 1 1) [p]:=by
 refine ⟨rfl, .inr ⟨w.heap.size,1,#[.pointer (some ⟨p,0,none⟩)],rfl,hB,heap_alloc_new w _,zl,by decide,rfl,rfl⟩⟩
theorem zmY (w:World) (B p q:Nat) (hB:B≤w.heap.size):zK zcV 1 98 (w.alloc (.cells #[.pointer (some ⟨p,0,none⟩), .pointer (some ⟨q,0,none⟩)] 98)) B (.slice (some ⟨w.heap.size,0,none⟩) 2 2) [p,q]:=by
 refine ⟨rfl, .inr ⟨w.heap.size,2,#[.pointer (some ⟨p,0,none⟩), .pointer (some ⟨q,0,none⟩)],rfl,hB,heap_alloc_new w _,zl,by decide,rfl,rfl⟩⟩
theorem ziY (w:World) (b o n c:Nat) (h0:0 < n) (hc:n≤c) (hn:n≤1000):
 Calls Tryz.prog 192 #[.slice (some ⟨b,o,none⟩) n c] w fun r w'=> r= .returned (.tuple #[.slice (some ⟨b,o,none⟩) (n / 2) c, .slice (some ⟨b,o+n / 2 * 4,none⟩) (n - n / 2) (c - n / 2)])∧Below w.heap.size w w':=by
 have hx:(n:Int) / 2=((n / 2:Nat):Int):=by omega
 have h1:n / 2≤c:=by omega
 have h2:n / 2≤n:=by omega
 have h3:¬c=n / 2:=by omega
 generalize n / 2=m at *;go_enter Tryz.func192,Tryz.ntmps192;go_wp2_with fail
 go_region
 all_goals
  go_wp2_with fail;go_ret2;exact ⟨rfl,zr.drew⟩
theorem ziZ (w:World) (b o n c:Nat) (h0:0 < n) (hc:n≤c) (hn:n≤1000):
 Calls Tryz.prog 193 #[.slice (some ⟨b,o,none⟩) n c] w fun r w'=> r= .returned (.tuple #[.slice (some ⟨b,o,none⟩) (n / 2) c, .slice (some ⟨b,o+n / 2,none⟩) (n - n / 2) (c - n / 2)])∧Below w.heap.size w w':=by
 have hx:(n:Int) / 2=((n / 2:Nat):Int):=by omega
 have h1:n / 2≤c:=by omega
 have h2:n / 2≤n:=by omega
 have h3:¬c=n / 2:=by omega
 generalize n / 2=m at *;go_enter Tryz.func193,Tryz.ntmps193;go_wp2_with fail
 go_region
 all_goals
  go_wp2_with fail;go_ret2;exact ⟨rfl,zr.drew⟩
theorem zee {w:World} {a:Option Addr} {n c:Nat} {es:List En} (h:zM zaW 4 w a n es) (hc:n≤c) (hn:n≤1000):
 Calls Tryz.prog 147 #[.slice a n c] w fun r w'=> ∃v ps,r= .returned v∧zK zcV 1 98 w' w.heap.size v ps∧zat w' (fun j=> w.heap.size≤j∧j < w'.heap.size) ps (zbv zbM es)∧Below w.heap.size w w':=by
 have Ac:=h.1
 by_cases h0:n=0
 ·subst h0;obtain rfl:es= []:=List.eq_nil_of_length_eq_zero Ac;clear h Ac;go_enter Tryz.func147,Tryz.ntmps147;go_wp2_with fail;go_ret;exact ⟨_, [],rfl,World.ownsRow_nil _ _ _ _,⟨rfl,fun i q k hq _=> by simp at hq⟩,Below.refl _ _⟩
 ·have Ft:¬((n:Int)=0):=by omega
  by_cases h6:n≤6
  ·have WW:(n:Int)≤6:=by omega
   have hp:zbv zbM es= [zbM es]:=zbO zbM (by omega) (by omega)
   have HL:=zh (zeW (c:=c) h hn);have HP:=zh hp;clear h hp;unfold zv at HL;go_enter Tryz.func147,Tryz.ntmps147;go_wp2_with fail;refine HL.out.mono ?_;rintro e w1 ⟨p,rfl,hN,hb⟩;have HB:=zh hb;have Ez:=zh hN;clear hb hN;go_wp2_with fail;go_ret;have Ae:=HB.out.alloc HB.out.size (.cells #[.pointer (some ⟨p,0,none⟩)] 98);have AR:=World.alloc_size w1 (.cells #[.pointer (some ⟨p,0,none⟩)] 98);refine ⟨_, [p],rfl,zmX w1 _ p HB.out.size, ?_,Ae⟩;rw [HP.out];exact zat.one ((Ez.out.same (fun j hj=> Below.heap_alloc _ _ _ hj.2)).more (fun j hj=> ⟨hj.1,by rw [AR];omega⟩))
  ·have WW:¬(n:Int)≤6:=by omega
   obtain ⟨b,o,rfl⟩:∃b o,a=some ⟨b,o,none⟩:=by
        obtain ⟨b,o,e,-⟩:=h.2 0 _ (ze (show 0 < es.length by omega))
        exact ⟨b,o,e⟩
   have hp:zbv zbM es= [zbM (es.take (n / 2)),zbM (es.drop (n / 2))]:=by rw [zdT zbM (by omega),Ac]
   have hA:=h.take (n / 2) (by omega)
   have hB:=h.drop (n / 2);have HA:=zh hA;have HB:=zh hB;have HV:=zh (ziY w b o n c (by omega) hc hn)
   have HP:=zh hp;have Fs:n / 2≤1000:=by omega
   have YF:n - n / 2≤1000:=by omega
   clear h hp hA hB;generalize n / 2=m at *;unfold zv at *;go_enter Tryz.func147,Tryz.ntmps147;go_wp2_with fail;refine HV.out.mono ?_;rintro e w1 ⟨rfl,Aa⟩;have Ak:=zh Aa;have HL:=zh (zeW (c:=c) (HA.out.below Aa zl) Fs);unfold zv at HL;clear Aa;go_wp2_with fail;refine HL.out.mono ?_;rintro e w2 ⟨p,rfl,I7,Ae⟩;have Ap:=zh Ae;have Wq:=zh I7;have I0:=zh (zeW (c:=c - m) ((HB.out.below Ak.out zl).below Ae zl) YF);unfold zv at I0;clear Ae I7;go_wp2_with fail;refine I0.out.mono ?_;rintro e w3 ⟨q,rfl,JC,Am⟩;have AI:=zh Am;have Qp:=zh JC;clear Am JC;go_wp2_with fail;go_ret;have s1:=Ak.out.size;have s2:=Ap.out.size;have s3:=AI.out.size;have Ao:Below w.heap.size w w3:=(Ak.out.trans (Ap.out.mono s1)).trans (AI.out.mono (by omega))
   have Ar:=Ao.alloc Ao.size (.cells #[.pointer (some ⟨p,0,none⟩), .pointer (some ⟨q,0,none⟩)] 98);have AR:=World.alloc_size w3 (.cells #[.pointer (some ⟨p,0,none⟩), .pointer (some ⟨q,0,none⟩)] 98);refine ⟨_, [p,q],rfl,zmY w3 _ p q Ao.size, ?_,Ar⟩;rw [HP.out];refine zat.two ((Wq.out.same (fun j hj=> ?_)).more (fun j hj=> ⟨by omega,by rw [AR];omega⟩)) ((Qp.out.same (fun j hj=> Below.heap_alloc _ _ _ hj.2)).more (fun j hj=> ⟨by omega,by rw [AR];omega⟩))
   rw [Below.heap_alloc _ _ _ (by omega)]
   exact AI.out.block j hj.2
theorem zea {S:Nat→Prop} {d:Nat} {w:World} {b o n c:Nat} {ps:List Nat} {ks:List (Tr d)} (h:zM zcV 1 w (some ⟨b,o,none⟩) n ps) (hc:n≤c) (hn:n≤1000) (Ft:0 < n) (hK:zat w S ps ks) (h0:∀k ∈ ks,0 < zH k) (hS:∀j,S j→j < w.heap.size):
 Calls Tryz.prog 149 #[.slice (some ⟨b,o,none⟩) n c] w fun r w'=> ∃v ps',r= .returned v∧zK zcV 1 98 w' w.heap.size v ps'∧zat w' (fun j=> S j∨(w.heap.size≤j∧j < w'.heap.size)) ps' (zbv mkT ks)∧Below w.heap.size w w':=by
 have Ac:=h.1;have Du:=hK.1;have az:¬((n:Int)=0):=by omega
 by_cases h6:n≤6
 ·have WW:(n:Int)≤6:=by omega
  have hp:zbv mkT ks= [mkT ks]:=zbO mkT (by omega) (by omega)
  have HL:=zh (zdN (c:=c) h hn hK.1 hK.2 h0 hS);have HP:=zh hp;clear h hp hK;unfold zv at HL;go_enter Tryz.func149,Tryz.ntmps149;go_wp2_with fail;refine HL.out.mono ?_;rintro e w1 ⟨p,rfl,hN,hb⟩;have HB:=zh hb;have Ez:=zh hN;clear hb hN;go_wp2_with fail;go_ret;have Ae:=HB.out.alloc HB.out.size (.cells #[.pointer (some ⟨p,0,none⟩)] 98);have AR:=World.alloc_size w1 (.cells #[.pointer (some ⟨p,0,none⟩)] 98);refine ⟨_, [p],rfl,zmX w1 _ p HB.out.size, ?_,Ae⟩;rw [HP.out];exact zat.one ((Ez.out.same (fun j hj=> Below.heap_alloc _ _ _ (hj.elim (fun h=> by have:=HB.out.size;have:=hS j h;omega) (fun h=> h.2)))).more (fun j hj=> hj.elim .inl (fun h=> .inr ⟨h.1,by rw [AR];omega⟩)))
 ·have WW:¬(n:Int)≤6:=by omega
  have hp:zbv mkT ks= [mkT (ks.take (n / 2)),mkT (ks.drop (n / 2))]:=by rw [zdT mkT (by omega),← Du,Ac]
  have hA:=h.take (n / 2) (by omega)
  have hB:=h.drop (n / 2);rw [Nat.mul_one] at hB;have HA:=zh hA;have HB:=zh hB;have Ql:=zh (hK.take (n / 2));have qV:=zh (hK.drop (n / 2));have HV:=zh (ziZ w b o n c (by omega) hc hn)
  have HP:=zh hp;have Fs:n / 2≤1000:=by omega
  have YF:n - n / 2≤1000:=by omega
  have h0A:∀k ∈ ks.take (n / 2),0 < zH k:=fun k hk=> h0 k (List.mem_of_mem_take hk);have h0B:∀k ∈ ks.drop (n / 2),0 < zH k:=fun k hk=> h0 k (List.mem_of_mem_drop hk);have H0A:=zh h0A;have H0B:=zh h0B;clear h hp hA hB hK h0A h0B;generalize n / 2=m at *;unfold zv at *;go_enter Tryz.func149,Tryz.ntmps149;go_wp2_with fail;refine HV.out.mono ?_;rintro e w1 ⟨rfl,Aa⟩;have Ak:=zh Aa;have OQ:=Ql.out.same (zbk.of_below Aa hS);have HL:=zh (zdN (c:=c) (HA.out.below Aa zl) Fs OQ.1 OQ.2 H0A.out (fun j hj=> zt (hS j hj) Aa.size));unfold zv at HL;clear Aa OQ;go_wp2_with fail;refine HL.out.mono ?_;rintro e w2 ⟨p,rfl,I7,Ae⟩;have Ap:=zh Ae;have Wq:=zh I7;have OR:=(qV.out.same (zbk.of_below Ak.out hS)).same (zbk.of_below Ae (fun j hj=> zt (hS j hj) Ak.out.size));have I0:=zh (zdN (c:=c - m) ((HB.out.below Ak.out zl).below Ae zl) YF OR.1 OR.2 H0B.out (fun j hj=> by have:=hS j hj;have:=Ak.out.size;have:=Ap.out.size;omega))
  unfold zv at I0;clear Ae I7 OR;go_wp2_with fail;refine I0.out.mono ?_;rintro e w3 ⟨q,rfl,JC,Am⟩;have AI:=zh Am;have Qp:=zh JC;clear Am JC;go_wp2_with fail;go_ret;have s1:=Ak.out.size;have s2:=Ap.out.size;have s3:=AI.out.size;have Ao:Below w.heap.size w w3:=(Ak.out.trans (Ap.out.mono s1)).trans (AI.out.mono (by omega))
  have Ar:=Ao.alloc Ao.size (.cells #[.pointer (some ⟨p,0,none⟩), .pointer (some ⟨q,0,none⟩)] 98);have AR:=World.alloc_size w3 (.cells #[.pointer (some ⟨p,0,none⟩), .pointer (some ⟨q,0,none⟩)] 98);refine ⟨_, [p,q],rfl,zmY w3 _ p q Ao.size, ?_,Ar⟩;rw [HP.out];refine zat.two ((Wq.out.same (fun j hj=> ?_)).more (fun j hj=> ?_)) ((Qp.out.same (fun j hj=> Below.heap_alloc _ _ _ ?_)).more (fun j hj=> ?_))
  ·have EC:j < w2.heap.size:=hj.elim (fun h=> by have:=hS j h;omega) (fun h=> h.2)
   rw [Below.heap_alloc _ _ _ (by omega)]
   exact AI.out.block j EC
  ·rcases hj with h | h
   ·exact .inl h
   ·exact .inr ⟨by omega,by rw [AR];omega⟩
  ·rcases hj with h | h
   ·have:=hS j h;omega
   ·exact h.2
  ·rcases hj with h | h
   ·exact .inl h
   ·exact .inr ⟨by omega,by rw [AR];omega⟩
end
section
open Go.RowKit
theorem zn8 (x:Nat) (ks:List Nat) (k:Nat):lbN (x::ks) k=(if x < k then 1 else 0)+lbN ks k:=by
 unfold lbN;rw [List.filter_cons]
 by_cases h:x < k
 ·rw [if_pos (by simpa using h),if_pos h,List.length_cons,Nat.add_comm]
 ·rw [if_neg (by simpa using h),if_neg h,Nat.zero_add]
theorem zn9 {ks:List Nat} {k:Nat} (h:∀x ∈ ks,k≤x):lbN ks k=0:=by
 unfold lbN;rw [List.filter_eq_nil_iff.2 (fun x hx=> by have:=h x hx;simp;omega)]
 rfl
theorem zfC {l:List En} (h:zac l) (e:En):
 (e.1 ∈ l.map (·.1)→lbN (l.map (·.1)) e.1 < l.length∧zaR l e=l.set (lbN (l.map (·.1)) e.1) e∧zaJ l e.1=l.take (lbN (l.map (·.1)) e.1)++l.drop (lbN (l.map (·.1)) e.1+1))∧
 (e.1 ∉ l.map (·.1)→lbN (l.map (·.1)) e.1≤l.length∧zaR l e=l.take (lbN (l.map (·.1)) e.1)++e::l.drop (lbN (l.map (·.1)) e.1)∧zaJ l e.1=l):=by
 induction l with
 | nil=> exact ⟨fun h=> by simp at h,fun _=> ⟨zl,rfl,rfl⟩⟩
 | cons x l ih=>
   have hx:=(List.pairwise_cons.1 h).1;obtain ⟨i1,i2⟩:=ih (List.pairwise_cons.1 h).2;have hz:¬x.1 < e.1→lbN (l.map (·.1)) e.1=0:=fun hn=> zn9 fun y hy=> by
    obtain ⟨z,hz,rfl⟩:=List.mem_map.1 hy;have:=hx z hz
    omega
   rw [List.map_cons,zn8]
   by_cases hlt:x.1 < e.1
   ·rw [if_pos hlt,Nat.add_comm 1];refine ⟨fun hm=> ?_,fun hm=> ?_⟩
    ·have Fs:e.1 ∈ l.map (·.1):=by
      rcases List.mem_cons.1 hm with h | h
      ·omega
      ·exact h
     obtain ⟨a1,a2,a3⟩:=i1 Fs;refine ⟨by simp;omega, ?_, ?_⟩
     ·rw [zaR,if_pos hlt,a2];rfl
     ·rw [zaJ,if_pos hlt,a3];rfl
    ·obtain ⟨a1,a2,a3⟩:=i2 (fun h=> hm (List.mem_cons.2 (.inr h)));refine ⟨by simp;omega, ?_, ?_⟩
     ·rw [zaR,if_pos hlt,a2];rfl
     ·rw [zaJ,if_pos hlt,a3]
   ·rw [if_neg hlt,Nat.zero_add,hz hlt];refine ⟨fun hm=> ?_,fun hm=> ?_⟩
    ·have MZ:x.1=e.1:=by
      rcases List.mem_cons.1 hm with h | h
      ·exact h.symm
      ·obtain ⟨z,hz,Ju⟩:=List.mem_map.1 h;have:=hx z hz
       omega
     refine ⟨by simp, ?_, ?_⟩
     ·rw [zaR,if_neg hlt,if_pos MZ];rfl
     ·rw [zaJ,if_neg hlt,if_pos MZ];rfl
    ·have MZ:x.1≠e.1:=fun h=> hm (List.mem_cons.2 (.inl h.symm));refine ⟨by simp, ?_, ?_⟩
     ·rw [zaR,if_neg hlt,if_neg MZ];rfl
     ·rw [zaJ,if_neg hlt,if_neg MZ]
theorem zmq {w:World} {g o:Nat} {cur:Array Value} {t:TypeId} (h:w.heap[g]? =some (.cells cur t (0,0))) (a b c d:Value) (o1 o2 o3:Nat):
 ((((w.setCell ⟨g,o,none⟩ a).setCell ⟨g,o1,none⟩ b).setCell ⟨g,o2,none⟩ c).setCell ⟨g,o3,none⟩ d).heap[g]? =some (.cells ((((cur.setIfInBounds o a).setIfInBounds o1 b).setIfInBounds o2 c).setIfInBounds o3 d) t (0,0)):=by
 have e1:=heap_setCell_same w g o cur t a h;have e2:=heap_setCell_same (w.setCell ⟨g,o,none⟩ a) g o1 _ t b e1;have e3:=heap_setCell_same ((w.setCell ⟨g,o,none⟩ a).setCell ⟨g,o1,none⟩ b) g o2 _ t c e2;exact heap_setCell_same (((w.setCell ⟨g,o,none⟩ a).setCell ⟨g,o1,none⟩ b).setCell ⟨g,o2,none⟩ c) g o3 _ t d e3
theorem zmr (cur:Array Value) (o:Nat) (a b c d:Value) (hb:o+4≤cur.size):
 ((((cur.setIfInBounds o a).setIfInBounds (o+1) b).setIfInBounds (o+2) c).setIfInBounds (o+3) d)=(cur.toList.take o++ [a,b,c,d]++cur.toList.drop (o+ [a,b,c,d].length)).toArray:=by
 apply Array.ext_getElem?
 intro t;have hlt:(cur.toList.take o).length=o:=by rw [List.length_take,Array.length_toList];omega
 rw [show (cur.toList.take o++ [a,b,c,d]++cur.toList.drop (o+ [a,b,c,d].length)).toArray[t]? =(cur.toList.take o++ [a,b,c,d]++cur.toList.drop (o+ [a,b,c,d].length))[t]? from List.getElem?_toArray];simp only [Array.getElem?_setIfInBounds,Array.size_setIfInBounds]
 by_cases c1:t < o
 ·rw [if_neg (by omega),if_neg (by omega),if_neg (by omega),if_neg (by omega),List.append_assoc,List.getElem?_append_left (by omega),List.getElem?_take_of_lt c1,Array.getElem?_toList]
 ·by_cases c2:t < o+4
  ·rw [List.append_assoc,List.getElem?_append_right (by omega),hlt,List.getElem?_append_left (by simp;omega)]
   obtain ⟨q,rfl⟩:∃q,t=o+q:=⟨t - o,by omega⟩
   have hq:q=0∨q=1∨q=2∨q=3:=by omega
   rcases hq with rfl | rfl | rfl | rfl
   ·rw [if_neg (by omega),if_neg (by omega),if_neg (by omega),if_pos (by omega)];simp;omega
   ·rw [if_neg (by omega),if_neg (by omega),if_pos (by omega)];simp;omega
   ·rw [if_neg (by omega),if_pos (by omega)];simp;omega
   ·rw [if_pos (by omega)];simp;omega
  ·rw [if_neg (by omega),if_neg (by omega),if_neg (by omega),if_neg (by omega),List.append_assoc,List.getElem?_append_right (by omega),hlt,List.getElem?_append_right (by simp;omega),List.getElem?_drop,Array.getElem?_toList]
   simp only [List.length_cons,List.length_nil]
   congr 1;omega
theorem zn2 {w:World} {g cap:Nat} {l:List En} (h:zbS zaW 4 141 w g cap l) (i:Nat) (hi:i < l.length) (e:En):
 zbS zaW 4 141 ((((w.setCell ⟨g,i * 4,none⟩ (.int .u16 (zj e.1:Int))).setCell ⟨g,i * 4+1,none⟩ (.int .u32 (zo e.1:Int))).setCell ⟨g,i * 4+2,none⟩ (.int .u64 (zp e.1:Int))).setCell ⟨g,i * 4+3,none⟩ (.int .u32 (e.2:Int))) g cap (l.set i e)∧
 zcN g w ((((w.setCell ⟨g,i * 4,none⟩ (.int .u16 (zj e.1:Int))).setCell ⟨g,i * 4+1,none⟩ (.int .u32 (zo e.1:Int))).setCell ⟨g,i * 4+2,none⟩ (.int .u64 (zp e.1:Int))).setCell ⟨g,i * 4+3,none⟩ (.int .u32 (e.2:Int))):=by
 obtain ⟨cur,h1,h2,h3⟩:=h.ex;have BO:=h.le;have ho:=(h.over zN h1 i (by omega) [e] (by show i+1≤cap;omega)).2 (by show i+1≤_;omega)
 have Ad:l.take i++ [e]++l.drop (i+ [e].length)=l.set i e:=by
  rw [List.set_eq_take_append_cons_drop,if_pos hi,List.append_assoc];rfl
 rw [Ad] at ho;have hc:zB zaW [e]= [.int .u16 (zj e.1:Int), .int .u32 (zo e.1:Int), .int .u64 (zp e.1:Int), .int .u32 (e.2:Int)]:=rfl;have hb:i * 4+4≤cur.size:=by rw [h2];omega
 rw [hc,← zmr cur (i * 4) _ _ _ _ hb] at ho;have e2:=setRow_heap w g cur ((((cur.setIfInBounds (i * 4) (.int .u16 (zj e.1:Int))).setIfInBounds (i * 4+1) (.int .u32 (zo e.1:Int))).setIfInBounds (i * 4+2) (.int .u64 (zp e.1:Int))).setIfInBounds (i * 4+3) (.int .u32 (e.2:Int))) _ _ h1;refine ⟨ho.heap ((zmq h1 _ _ _ _ _ _ _).trans e2.symm),⟨rfl,rfl,rfl,by simp,fun j hj=> ?_⟩⟩
 rw [heap_setCell_other _ _ j _ hj,heap_setCell_other _ _ j _ hj,heap_setCell_other _ _ j _ hj,heap_setCell_other _ _ j _ hj]
theorem zK.below {α:Type} {enc:α→List Value} {k:Nat} {e:TypeId} {w w':World} {B:Nat} {v:Value} {l:List α} (h:zK enc k e w B v l) {C:Nat} (hb:Below C w w') (hC:w.heap.size≤C):zK enc k e w' B v l:=
 h.kept (row:=none) ⟨hb.os,hb.tape,hb.output,hb.size,fun j hj _=> hb.block j (by omega)⟩ (by cases hv:v.ownBlock with | none=> exact .inl rfl | some g=> exact .inr (fun e=> by cases e))
theorem zK.base {α:Type} {enc:α→List Value} {k:Nat} {e:TypeId} {w:World} {B B':Nat} {v:Value} {l:List α} (h:zK enc k e w B v l) (hb:B'≤B):zK enc k e w B' v l:=by
 refine ⟨h.1, ?_⟩;rcases h.2 with h2 | ⟨g,cap,cur,hv,hg,r⟩
 ·exact .inl h2
 ·exact .inr ⟨g,cap,cur,hv,by omega,r⟩
theorem zoB {S:Nat→Prop} {w:World} {p:Nat} {t:Tr 0} (ht:zQ w S p t) (hS:∀j,S j→j < w.heap.size) (hn:zH t≤900) (hr:zac (zS t)) (e:En):
 Calls Tryz.prog 146 #[zv p,zd1 e] w fun r w'=> ∃v x,r= .returned (.tuple #[v, .int .u32 x, .bool (decide (e.1 ∈ zC t))])∧zK zaW 4 141 w' w.heap.size v (zaR (zS t) e)∧Below w.heap.size w w':=by
 have EE:zC t=(zS t).map (·.1):=rfl;have Ac:zH t=(zS t).length:=rfl;have Eu:(zC t).Pairwise (· < ·):=by rw [EE];exact List.pairwise_map.2 hr
 obtain ⟨q1,q2⟩:=zfC hr e;rw [← EE] at q1 q2;have Aq:Below w.heap.size w (w.alloc (.cells #[.int .u16 (zj e.1:Int), .int .u32 (zo e.1:Int), .int .u64 (zp e.1:Int), .int .u32 (e.2:Int)] 141)):=zr.alloc zl _;have DP:(w.alloc (.cells #[.int .u16 (zj e.1:Int), .int .u32 (zo e.1:Int), .int .u64 (zp e.1:Int), .int .u32 (e.2:Int)] 141)).heap[w.heap.size]? =some (.cells #[.int .u16 (zj e.1:Int), .int .u32 (zo e.1:Int), .int .u64 (zp e.1:Int), .int .u32 (e.2:Int)] 141 (0,0)):=heap_alloc_new w _;have Cd:(w.alloc (.cells #[.int .u16 (zj e.1:Int), .int .u32 (zo e.1:Int), .int .u64 (zp e.1:Int), .int .u32 (e.2:Int)] 141)).heap.size=w.heap.size+1:=World.alloc_size _ _;have RW:=ht.same (zbk.of_below Aq hS);have HE:=zh (zbH RW (fun j hj=> by rw [Cd];have:=hS j hj;omega) (by omega))
 unfold zd1 zv at *;go_enter Tryz.func146,Tryz.ntmps146;go_wp2_with fail;generalize w.alloc (.cells #[.int .u16 (zj e.1:Int), .int .u32 (zo e.1:Int), .int .u64 (zp e.1:Int), .int .u32 (e.2:Int)] 141)=w0 at *;refine HE.out.mono ?_;rintro r w1 ⟨v,rfl,hv,Aa⟩;rw [Cd] at hv Aa;have B3:Below w.heap.size w w1:=Aq.trans (Aa.mono (by omega))
 have BB:w1.heap[w.heap.size]? =some (.cells #[.int .u16 (zj e.1:Int), .int .u32 (zo e.1:Int), .int .u64 (zp e.1:Int), .int .u32 (e.2:Int)] 141 (0,0)):=by rw [Aa.block w.heap.size (by omega)];exact DP
 have RX:=ht.same (zbk.of_below B3 hS);obtain ⟨ka,kc,va,vn,vc,ca,cn,cc,AH,Ec⟩:=RX.box;obtain ⟨-,y1,-,-,GM⟩:=AH.reads;have HB:=zh (zdw ka (zH t) kc (zC t) e.1 w1.drew (show ziq w1.drew _ _ _ from Ec) (by omega) Eu)
 obtain ⟨va',vn',vc',rfl⟩:=hv.form;have Ow:=zh q1;have Ox:=zh q2;have HV:=zh hv;have Fd:=zh B3;have Cq:w1.drew.cell? ⟨p,1,none⟩=some (.slice ka (zH t) kc)∧w1.drew.cell? ⟨w.heap.size,0,none⟩=some (.int .u16 (zj e.1:Int))∧w1.drew.cell? ⟨w.heap.size,1,none⟩=some (.int .u32 (zo e.1:Int))∧w1.drew.cell? ⟨w.heap.size,2,none⟩=some (.int .u64 (zp e.1:Int)):=⟨y1,cell_of_row w1 w.heap.size 0 _ _ _ BB,cell_of_row w1 w.heap.size 1 _ _ _ BB,cell_of_row w1 w.heap.size 2 _ _ _ BB⟩;have Bg:∀W,Below w1.drew.heap.size w1.drew W→W.cell? ⟨p,1,none⟩=some (.slice ka (zH t) kc)∧W.cell? ⟨w.heap.size,0,none⟩=some (.int .u16 (zj e.1:Int))∧W.cell? ⟨w.heap.size,1,none⟩=some (.int .u32 (zo e.1:Int))∧W.cell? ⟨w.heap.size,2,none⟩=some (.int .u64 (zp e.1:Int)):=fun W hW=>
  ⟨(hW.cell (zb _ _ Cq.1)).trans Cq.1,(hW.cell (zb _ _ Cq.2.1)).trans Cq.2.1,(hW.cell (zb _ _ Cq.2.2.1)).trans Cq.2.2.1,(hW.cell (zb _ _ Cq.2.2.2)).trans Cq.2.2.2⟩
 have B9:=zh Bg;have C6:=B3.size;have RI:w.heap.size < w1.heap.size:=(zg BB).1;have LT:=zh BB;unfold za2 at HB;clear ht DP RW HE Aq Aa BB RX AH Ec Eu hv q1 q2 Bg B3 y1 EE hr;generalize hB:w.heap.size=B at *
 by_cases hm:e.1 ∈ zC t
 ·have Cb:decide (e.1 ∈ zC t)=true:=decide_eq_true hm;rw [Cb] at HB;have Hg:=zh Cb;obtain ⟨hi,Ad,-⟩:=Ow.out hm;generalize lbN (zC t) e.1=i at *;obtain ⟨x,hx⟩:∃x,(zS t)[i]? =some x:=⟨_,ze hi⟩;have DY:=zh Ad;have OD:=zh hx;clear hm Cb Ow Ox Ad hx;have MT:(zS t).length≤1000:=by omega
  clear Ac Cd;generalize zH t=n at *;go_wp2_with fail
  go_region_held_law (fun W'=> W'.cell? ⟨p,1,none⟩=some (.slice ka n kc)∧W'.cell? ⟨B,0,none⟩=some (.int .u16 (zj e.1:Int))∧W'.cell? ⟨B,1,none⟩=some (.int .u32 (zo e.1:Int))∧W'.cell? ⟨B,2,none⟩=some (.int .u64 (zp e.1:Int)))
   (first | exact Cq | exact B9.out _ Ag)
   (first | (go_at_call 177;refine HB.out.mono ?_;rintro r w5 ⟨rfl,Ag⟩))
  all_goals
   have CL:Below B w w5:=Fd.out.trans ((show Below w1.heap.size w1 w5 from ⟨Ag.os,Ag.tape,Ag.output,Ag.size,Ag.block⟩).mono C6);have DV:w5.heap[B]? =some (.cells #[.int .u16 (zj e.1:Int), .int .u32 (zo e.1:Int), .int .u64 (zp e.1:Int), .int .u32 (e.2:Int)] 141 (0,0)):=(Ag.block B RI).trans LT.out;have IP:zK zaW 4 141 w5 (B+1) (.slice va' vn' vc') (zS t):=HV.out.below (C:=w1.heap.size) ⟨Ag.os,Ag.tape,Ag.output,Ag.size,Ag.block⟩ zl;rcases IP.cases with ⟨-,h0⟩ | ⟨g,cap,he,Bc,BF,hR⟩
   ·rw [h0] at hi;simp at hi
   ·cases he
    obtain ⟨z0,z1,z2,z3⟩:w5.cell? ⟨B,0,none⟩=some (.int .u16 (zj e.1:Int))∧w5.cell? ⟨B,1,none⟩=some (.int .u32 (zo e.1:Int))∧w5.cell? ⟨B,2,none⟩=some (.int .u64 (zp e.1:Int))∧w5.cell? ⟨B,3,none⟩=some (.int .u32 (e.2:Int)):=⟨cell_of_row w5 B 0 _ _ _ DV,cell_of_row w5 B 1 _ _ _ DV,cell_of_row w5 B 2 _ _ _ DV,cell_of_row w5 B 3 _ _ _ DV⟩;obtain ⟨g',o',SN,Dn⟩:=(hR.row zN).2 i x OD.out
    cases SN
    have r0:=Dn 0 _ rfl;have r1:=Dn 1 _ rfl;have r2:=Dn 2 _ rfl;have r3:=Dn 3 _ rfl;simp only [Nat.zero_add,Nat.add_zero] at r0 r1 r2 r3;obtain ⟨curg,Nv,-,-⟩:=hR.ex;have Yg:∀j,w5.frozen? ⟨g,j,none⟩=false:=fun j=> by simp [World.frozen?,Nv]
    obtain ⟨jM,jS⟩:=zn2 hR i hi e;have KQ:=jM.own zN (show B≤g by omega)
    rw [List.length_set,← DY.out] at KQ;have AT:=CL.grown jS.grown (by omega) (fun j hj=> by cases hj;omega)
    have HF:=zh (zn KQ AT);have G8:(i:Int) < ((zS t).length:Int):=by omega
    clear KQ AT jM jS hR Nv Dn IP DV CL;generalize (zS t).length=rn at *;go_wp2_with fail
    go_ret3
    exact ⟨_,(x.2:Int),by rw [Hg.out];rfl,by rw [hB];exact HF.out.1,by rw [hB];exact HF.out.2⟩
 ·have Cb:decide (e.1 ∈ zC t)=false:=decide_eq_false hm;rw [Cb] at HB;have Hg:=zh Cb;obtain ⟨hi,Ad,-⟩:=Ox.out hm;generalize lbN (zC t) e.1=i at *;have DY:=zh Ad;clear hm Cb Ow Ox Ad;have MT:(zS t).length≤1000:=by omega
  clear Ac Cd;generalize zH t=n at *;go_wp2_with fail
  go_region_held_law (fun W'=> W'.cell? ⟨p,1,none⟩=some (.slice ka n kc)∧W'.cell? ⟨B,0,none⟩=some (.int .u16 (zj e.1:Int))∧W'.cell? ⟨B,1,none⟩=some (.int .u32 (zo e.1:Int))∧W'.cell? ⟨B,2,none⟩=some (.int .u64 (zp e.1:Int)))
   (first | exact Cq | exact B9.out _ Ag)
   (first | (go_at_call 177;refine HB.out.mono ?_;rintro r w5 ⟨rfl,Ag⟩))
  all_goals
   have CL:Below B w w5:=Fd.out.trans ((show Below w1.heap.size w1 w5 from ⟨Ag.os,Ag.tape,Ag.output,Ag.size,Ag.block⟩).mono C6);have DV:w5.heap[B]? =some (.cells #[.int .u16 (zj e.1:Int), .int .u32 (zo e.1:Int), .int .u64 (zp e.1:Int), .int .u32 (e.2:Int)] 141 (0,0)):=(Ag.block B RI).trans LT.out;have IP:zK zaW 4 141 w5 (B+1) (.slice va' vn' vc') (zS t):=HV.out.below (C:=w1.heap.size) ⟨Ag.os,Ag.tape,Ag.output,Ag.size,Ag.block⟩ zl;obtain ⟨z0,z1,z2,z3⟩:w5.cell? ⟨B,0,none⟩=some (.int .u16 (zj e.1:Int))∧w5.cell? ⟨B,1,none⟩=some (.int .u32 (zo e.1:Int))∧w5.cell? ⟨B,2,none⟩=some (.int .u64 (zp e.1:Int))∧w5.cell? ⟨B,3,none⟩=some (.int .u32 (e.2:Int)):=⟨cell_of_row w5 B 0 _ _ _ DV,cell_of_row w5 B 1 _ _ _ DV,cell_of_row w5 B 2 _ _ _ DV,cell_of_row w5 B 3 _ _ _ DV⟩;have bP:B < w5.heap.size:=(zg DV).1;have FL:=IP.lt;have HI:=zh (zk4 (IP.alloc (.cells (zaW e).toArray 141)) i hi MT (heap_alloc_new w5 (.cells (zaW e).toArray 141)) (fun h=> by have:=(FL _ h).2;omega) (by rw [World.alloc_size];omega))
   have AT:=CL.alloc (by omega) (.cells (zaW e).toArray 141)
   have DW:=zh AT;have vG:=zh FL;have Uf:=World.alloc_size w5 (.cells (zaW e).toArray 141);have Ln:=zh Uf;unfold zaW at HI DW;clear IP DV CL FL AT Uf;go_wp2_with fail;refine HI.out.mono ?_;rintro r w7 ⟨v',rfl,Gj,hg⟩;rw [← DY.out] at Gj;have B1:=DW.out.grown hg (by have:=Ln.out;unfold zaW at this;rw [this];omega) (fun j hj=> by have:=(vG.out j hj).1;omega)
   have HF:=zh (zn Gj B1);clear Gj hg B1 HI;go_wp2_with fail
   go_ret3
   exact ⟨_,0,by rw [Hg.out];rfl,by rw [hB];exact zK.base HF.out.1 (by omega),by rw [hB];exact HF.out.2⟩
end
section
open Go.RowKit
theorem zkf (a b:Nat) (w:World):
 Calls Tryz.prog 74 #[za2 a,za2 b] w fun e w'=> e= .returned (.bool (zj a==zj b && zo a==zo b))∧Below w.heap.size w w':=by
 have hb:Below w.heap.size w ((w.alloc (.cells #[.int .u16 (zj a:Int), .int .u32 (zo a:Int), .int .u64 (zp a:Int)] 132)).alloc (.cells #[.int .u16 (zj b:Int), .int .u32 (zo b:Int), .int .u64 (zp b:Int)] 132)):=(zr.alloc zl _).alloc (by simp) _
 unfold za2
 by_cases h1:zj a=zj b
 ·have e1:((zj a:Int)==(zj b:Int))=true:=by rw [h1];simp
  have f1:(zj a==zj b)=true:=by rw [h1];simp
  by_cases h2:zo a=zo b
  ·have e2:((zo a:Int)==(zo b:Int))=true:=by rw [h2];simp
   have f2:(zo a==zo b)=true:=by rw [h2];simp
   have F:Hid ((zj a==zj b && zo a==zo b)=true):=zh (by rw [f1,f2];rfl)
   clear h1 h2 f1 f2;go_enter Tryz.func74,Tryz.ntmps74;go_wp2_with fail;go_ret;exact ⟨by rw [F.out];rfl,hb⟩
  ·have e2:((zo a:Int)==(zo b:Int))=false:=by rw [beq_eq_false_iff_ne];omega
   have f2:(zo a==zo b)=false:=by rw [beq_eq_false_iff_ne];exact h2
   have F:Hid ((zj a==zj b && zo a==zo b)=false):=zh (by rw [f1,f2];rfl)
   clear h1 h2 f1 f2;go_enter Tryz.func74,Tryz.ntmps74;go_wp2_with fail;go_ret;exact ⟨by rw [F.out];rfl,hb⟩
 ·have e1:((zj a:Int)==(zj b:Int))=false:=by rw [beq_eq_false_iff_ne];omega
  have f1:(zj a==zj b)=false:=by rw [beq_eq_false_iff_ne];exact h1
  have F:Hid ((zj a==zj b && zo a==zo b)=false):=zh (by rw [f1];rfl)
  clear h1 f1;go_enter Tryz.func74,Tryz.ntmps74;go_wp2_with fail;go_ret;exact ⟨by rw [F.out];rfl,hb⟩
end
section
open Go.RowKit
theorem Sl.ptrs {w:World} {a:Option Addr} {n:Nat} {ps:List Nat} (h:Sl w a n (ps.map zv)):zM zcV 1 w a n ps:=
 ⟨by have:=h.1;rwa [List.length_map] at this,fun i r hr=> by
  obtain ⟨b,o,e,h1⟩:=h.2 i (zv r) (by rw [List.getElem?_map,hr];rfl)
  exact ⟨b,o,e,fun j x hx=> by
     have hj:j < 1:=by simpa [zcV] using (zi hx).1
     obtain rfl:j=0:=by omega
     simp [zcV] at hx;subst hx
     simpa using h1⟩⟩
theorem zQ.inner {S:Nat→Prop} {w:World} {d p:Nat} {t:Tr (d+1)} (h:zQ w S p t) (h0:0 < zH t):∃cb co cc ps,w.cell? ⟨p,3,none⟩=some (.slice (some ⟨cb,co,none⟩) (zH t) cc)∧w.cell? ⟨p,0,none⟩=some (.bool false)∧zM zcV 1 w (some ⟨cb,co,none⟩) (zH t) ps∧zat w S ps (zx t)∧S p∧S cb∧zH t≤zH t:=by
 obtain ⟨ka,kc,ca,cc,ps,AH,Eu,Fc,AQ,hk⟩:=h;obtain ⟨y0,-,-,y3,-⟩:=AH.reads;have hr:=Fc.ptrs;obtain ⟨q,hq⟩:∃q,ps[0]? =some q:=⟨_,ze (by rw [AQ];exact h0)⟩
 obtain ⟨b,o,rfl,-⟩:=hr.2 0 q hq;exact ⟨b,o,cc,ps,y3,y0,hr,⟨AQ,hk⟩,AH.self,AH.kids b o rfl,zl⟩
theorem zK.someE {α:Type} {enc:α→List Value} {k:Nat} {e:TypeId} {w:World} {B:Nat} {v:Value} {l:List α} (h:zK enc k e w B v l) (h0:0 < l.length):∃g cap,v= .slice (some ⟨g,0,none⟩) l.length cap∧B≤g∧g < w.heap.size∧l.length≤cap∧zbS enc k e w g cap l:=by
 rcases h.cases with ⟨-,h1⟩ | ⟨g,cap,he,Bc,BF,hR⟩
 ·rw [h1] at h0;simp at h0
 ·exact ⟨g,cap,he,Bc,BF,hR.le,hR⟩
end
section
open Go.RowKit
structure Ext (S:Nat→Prop) (n:Nat) (S':Nat→Prop) (w':World):Prop where
 sub:∀j,S j→S' j
 new:∀j,S' j→S j∨n≤j
 lt:∀j,S' j→j < w'.heap.size
theorem Ext.later {S S1:Nat→Prop} {n:Nat} {w1 w2:World} (h:Ext S n S1 w1) (hs:w1.heap.size≤w2.heap.size):Ext S n S1 w2:=⟨h.sub,h.new,fun j hj=> zt (h.lt j hj) hs⟩
end
section
open Go.RowKit
inductive UpT (w:World) (S:Nat→Prop) (k:Nat) {d:Nat} (t:Tr d):List (Nat × Nat)→(m:Nat)→Tr m→Prop
 | top:UpT w S k t [] d t
 | step {pre:List (Nat × Nat)} {m p:Nat} {u:Tr (m+1)} {c:Tr m}:UpT w S k t pre (m+1) u→zQ w S p u→(zx u)[zP (zC u) k]? =some c→UpT w S k t (pre++ [(p,zP (zC u) k)]) m c
theorem UpT.end {w:World} {S:Nat→Prop} {k d:Nat} {t:Tr d} {l:List (Nat × Nat)} {m:Nat} {s:Tr m} (h:UpT w S k t l m s) (hl:l= []):(⟨m,s⟩:(d:Nat) × Tr d)=⟨d,t⟩:=by
 cases h with
 | top=> rfl
 | step h1 h2 h3=> simp at hl
theorem UpT.last {w:World} {S:Nat→Prop} {k d:Nat} {t:Tr d} {l:List (Nat × Nat)} {m:Nat} {s:Tr m} (h:UpT w S k t l m s) {pre:List (Nat × Nat)} {p i:Nat} (hl:l=pre++ [(p,i)]):
 ∃u:Tr (m+1),UpT w S k t pre (m+1) u∧zQ w S p u∧i=zP (zC u) k∧(zx u)[i]? =some s:=by
 cases h with
 | top=> simp at hl
 | step h1 h2 h3=>
   obtain ⟨rfl,h5⟩:=List.append_inj' hl rfl;simp only [List.cons.injEq,Prod.mk.injEq,and_true] at h5;obtain ⟨rfl,rfl⟩:=h5;exact ⟨_,h1,h2,rfl,h3⟩
theorem UpT.same {w w':World} {S:Nat→Prop} {k d:Nat} {t:Tr d} (hs:zbk S w w') {l:List (Nat × Nat)} {m:Nat} {s:Tr m} (h:UpT w S k t l m s):UpT w' S k t l m s:=by
 induction h with
 | top=> exact .top
 | step _ h2 h3 ih=> exact .step ih (h2.same hs) h3
theorem UpT.good {w:World} {S:Nat→Prop} {k d:Nat} {t:Tr d} (h0:0 < zH t) (h6:zH t≤6) (hK:zax t) (hr:zac (flatT t)) {l:List (Nat × Nat)} {m:Nat} {s:Tr m} (h:UpT w S k t l m s):0 < zH s∧zH s≤6∧zax s∧zac (flatT s)∧l.length+m=d:=by
 induction h with
 | top=> exact ⟨h0,h6,hK,hr,by simp⟩
 | step _ _ h3 ih=>
   obtain ⟨i1,i2,i3,i4,i5⟩:=ih;have hm:=zm h3;have hF:=zag.kid i3 hm;exact ⟨by have:=hF.lo;omega,hF.hi,hF.kids,zbu i4 hm,by simp;omega⟩
theorem zf2.up {w:World} {S:Nat→Prop} {k d:Nat} {t:Tr d}:∀{d':Nat} {p':Nat} {t':Tr d'} {pre path:List (Nat × Nat)} {pl:Nat} {lt:Tr 0},UpT w S k t pre d' t'→zf2 w S k p' t' path pl lt→UpT w S k t (pre++path) 0 lt∧zQ w S pl lt
 | 0,p',t',pre,path,pl,lt,h,hw=> by
   obtain ⟨rfl,rfl,rfl,h4⟩:=hw;exact ⟨by rw [List.append_nil];exact h,h4⟩
 | d'+1,p',t',pre,path,pl,lt,h,hw=> by
   obtain ⟨h0,q,c,path',rfl,h2,h3,h4⟩:=hw;have:=zf2.up (UpT.step h h0 h2) h4;rw [List.append_assoc] at this;exact this
theorem zdJ:∀{d:Nat} {t:Tr d},zag t→3 ^ (d+1)≤(flatT t).length
 | 0,t,h=> by
   have h1:3≤(flatT t).length:=h.lo
   simpa using h1
 | d + 1,t,h=> by
   have hk:∀(l:List (Tr d)),(∀k ∈ l,zag k)→l.length * 3 ^ (d+1)≤(l.flatMap flatT).length:=fun l=> by
     induction l with
     | nil=> intro _;simp
     | cons x l ih=>
       intro hf;have h1:=zdJ (hf x (List.mem_cons_self ..));have h2:=ih (fun k hk=> hf k (List.mem_cons_of_mem _ hk));rw [List.flatMap_cons,List.length_append,List.length_cons,Nat.add_mul]
       omega
   have h1:=hk (zx t) (fun k hk=> zag.kid h.kids hk);have h2:3≤(zx t).length:=h.lo;have h3:3 * 3 ^ (d+1)≤(zx t).length * 3 ^ (d+1):=Nat.mul_le_mul_right _ h2;have h4:(flatT t).length=((zx t).flatMap flatT).length:=rfl;rw [show 3 ^ (d+1+1)=3 * 3 ^ (d+1) by rw [Nat.pow_succ,Nat.mul_comm],h4]
   omega
structure zcM {d:Nat} (t:Tr d):Prop where
 lo:0 < zH t
 hi:zH t≤6
 kids:zax t
 two:d=0∨2≤zH t
theorem zcM.depth {d:Nat} {t:Tr d} (h:zcM t) (hl:(flatT t).length≤2000):d≤10:=by
 cases d with
 | zero=> omega
 | succ d=>
   have h2:2≤(zx t).length:=by
    rcases h.two with h2 | h2
    ·omega
    ·exact h2
   obtain ⟨c,hc⟩:∃c,(zx t)[0]? =some c:=⟨_,ze (by omega)⟩
   have hm:=zm hc;have h3:=zdJ (zag.kid h.kids hm);have h4:=zbK (zx t) 0 c hc;have h5:(flatT t).length=((zx t).flatMap flatT).length:=rfl;rw [h5,h4,List.length_append,List.length_append] at hl;rcases Nat.lt_or_ge d 10 with hd | hd
   ·omega
   ·have h6:3 ^ 11≤3 ^ (d+1):=Nat.pow_le_pow_right (by decide) (by omega)
    have h7:(3:Nat) ^ 11=177147:=by decide
    omega
structure za5 (w:World) (S:Nat→Prop) (pt:Nat) (l:List En):Prop where
 rise:zac l
 lt:∀j,S j→j < w.heap.size
 apart:¬S pt
 has:(l= []∧zaw w pt none 0)∨∃(d p:Nat) (t:Tr d),zaw w pt (some p) l.length∧zQ w S p t∧zcM t∧flatT t=l
theorem za5.same {w w':World} {S:Nat→Prop} {pt:Nat} {l:List En} (h:za5 w S pt l) (hs:zbk S w w') (hp:w'.heap[pt]? =w.heap[pt]?) (hz:w.heap.size≤w'.heap.size):za5 w' S pt l:=by
 refine ⟨h.rise,fun j hj=> zt (h.lt j hj) hz,h.apart, ?_⟩;rcases h.has with ⟨h1,h2⟩ | ⟨d,p,t,h1,h2,h3,h4⟩
 ·exact .inl ⟨h1,hp.trans h2⟩
 ·exact .inr ⟨d,p,t,hp.trans h1,h2.same hs,h3,h4⟩
theorem za5.ptlt {w:World} {S:Nat→Prop} {pt:Nat} {l:List En} (h:za5 w S pt l):pt < w.heap.size:=by
 rcases h.has with ⟨-,h2⟩ | ⟨d,p,t,h1,-⟩
 ·exact (zg h2).1
 ·exact (zg h1).1
theorem zon {d:Nat} {t:Tr d} (h:zcM t) (hr:zac (flatT t)) (e:En):(∃a,zho t e= [a]∧zcM a∧flatT a=zaR (flatT t) e)∨∃a b,zho t e= [a,b]∧zcM (mkT [a,b])∧flatT (mkT [a,b])=zaR (flatT t) e∧0 < zH a∧0 < zH b:=by
 have hf:=zkg h.lo h.kids hr e;rcases zhd h.lo h.hi h.kids hr e with ⟨a,h1,h2,h3,h4⟩ | ⟨a,b,h1,h2,h3⟩
 ·rw [h1] at hf;refine .inl ⟨a,h1,⟨by have:=h.lo;omega,h3,h4, ?_⟩,by simpa using hf⟩
  rcases h.two with h5 | h5
  ·exact .inl h5
  ·exact .inr (by omega)
 ·rw [h1] at hf;refine .inr ⟨a,b,h1,⟨by show 0 < 2;omega,by show 2≤6;omega, ?_, .inr (by show 2≤2;omega)⟩,hf,by have:=h2.lo;omega,by have:=h3.lo;omega⟩
  rw [zbL];intro k hk;rcases List.mem_cons.1 hk with rfl | hk
  ·exact h2
  ·rcases List.mem_cons.1 hk with rfl | hk
   ·exact h3
   ·simp at hk
end
section
open Go.RowKit
theorem UpT.get {w:World} {S:Nat→Prop} {k d:Nat} {t:Tr d} (h0:0 < zH t) (h6:zH t≤6) (hK:zax t) (hr:zac (flatT t)) {l:List (Nat × Nat)} {m:Nat} {s:Tr m} (h:UpT w S k t l m s):zdi (flatT t) k=zdi (flatT s) k:=by
 induction h with
 | top=> rfl
 | @step pre m p u c hu _ h3 ih=>
   obtain ⟨g1,g2,g3,g4,-⟩:=hu.good h0 h6 hK hr;obtain ⟨m1,m2,-⟩:=zfr g3 g4 k h3;rw [ih,show flatT u=(zx u).flatMap flatT from rfl,zbK (zx u) _ c h3,zjW m1 m2]
theorem ziX (l:List En) (k:Nat):(zdi l k).isSome=decide (k ∈ l.map (·.1)):=by
 induction l with
 | nil=> simp [zdi]
 | cons x l ih=>
   rw [zdi]
   by_cases h:x.1=k
   ·rw [if_pos h];simp [h]
   ·rw [if_neg h,ih];have:(k ∈ (x::l).map (·.1))↔k ∈ l.map (·.1):=by
        rw [List.map_cons,List.mem_cons];exact ⟨fun h2=> h2.elim (fun e=> absurd e.symm h) id, .inr⟩
    rw [decide_eq_decide];exact this.symm
theorem zpy {m:Nat} {u:Tr (m+1)} {s:Tr m} (e:En) (h:(zx u)[zP (zC u) e.1]? =some s):zho u e=zbv mkT ((zx u).take (zP (zC u) e.1)++(zho s e++(zx u).drop (zP (zC u) e.1+1))):=by
 rw [zho,h,List.append_assoc];rfl
theorem zg5 {w:World} {q:Nat} {l:List (Nat × Nat)} (h:zZ w q l):
 Calls Tryz.prog 148 #[zv q] w fun e w'=> ∃(op:Option Addr) (iv:Int),e= .returned (.tuple #[.agg #[.pointer op, .int .i64 iv], .bool (decide (l≠ []))])∧w.grownBy w' (some q)∧
  ((l= []∧zZ w' q [])∨∃(l':List (Nat × Nat)) (p i:Nat),l=l'++ [(p,i)]∧op=some ⟨p,0,none⟩∧iv=i∧zZ w' q l'):=by
 rcases List.eq_nil_or_concat l with rfl | ⟨l',x,rfl⟩
 ·refine (zhe h).mono ?_;rintro e w' ⟨rfl,hb⟩;exact ⟨none,0,rfl,⟨hb.os,hb.tape,hb.output,hb.size,fun j hj _=> hb.block j hj⟩, .inl ⟨rfl,h.heap (hb.block q h.lt)⟩⟩
 ·obtain ⟨p,i⟩:=x;rw [List.concat_eq_append] at h ⊢;refine (zhf h).mono ?_;rintro e w' ⟨rfl,hs,hg⟩;refine ⟨some ⟨p,0,none⟩,i, ?_,hg, .inr ⟨l',p,i,rfl,rfl,rfl,hs⟩⟩;rw [decide_eq_true (by simp)]
  rfl
structure zlR {d:Nat} (w:World) (S0:Nat→Prop) (n0 k:Nat) (t:Tr d) (f:{m:Nat}→Tr m→List (Tr m)) (q xb:Nat) (v okv:Value) (pre:List (Nat × Nat)) (W:World):Prop where
 ok:okv= .bool (!decide (pre= []))
 at':∃(m:Nat) (s:Tr m) (ps:List Nat) (S:Nat→Prop),UpT w S0 k t pre m s∧zK zcV 1 98 W n0 v ps∧zat W S ps (f s)∧Ext S0 n0 S W∧¬S q
 cell:∃op iv,W.heap[xb]? =some (.cells #[.pointer op, .int .i64 iv] 244 (0,0))∧(pre= []∨∃(l:List (Nat × Nat)) (p i:Nat),pre=l++ [(p,i)]∧op=some ⟨p,0,none⟩∧iv=i∧zZ W q l)
 below:Below n0 w W
 qn:n0≤q
 xn:n0≤xb
 ql:q < W.heap.size
theorem zeU {w:World} {g:Nat} {x0 x1:Value} {t:TypeId} (h:w.heap[g]? =some (.cells #[x0,x1] t (0,0))) (a b:Value):((w.setCell ⟨g,0,none⟩ a).setCell ⟨g,1,none⟩ b).heap[g]? =some (.cells #[a,b] t (0,0)):=by
 have e1:=heap_setCell_same w g 0 _ t a h;have e2:=heap_setCell_same (w.setCell ⟨g,0,none⟩ a) g 1 _ t b e1;exact e2
theorem ze0 (w:World) (g:Nat) (a b:Value):zcN g w ((w.setCell ⟨g,0,none⟩ a).setCell ⟨g,1,none⟩ b):=
 ⟨rfl,rfl,rfl,by simp,fun j hj=> by rw [heap_setCell_other _ _ j _ hj,heap_setCell_other _ _ j _ hj]⟩
theorem zlR.laid {d:Nat} {w:World} {S0:Nat→Prop} {n0 k:Nat} {t:Tr d} {f:{m:Nat}→Tr m→List (Tr m)} {q xb:Nat} {v:Value} {l:List (Nat × Nat)} {W W2:World} {op:Option Addr} {iv:Int}
 {m:Nat} {s:Tr m} {ps:List Nat} {S:Nat→Prop} (Jt:UpT w S0 k t l m s) (Af:zK zcV 1 98 W n0 v ps) (Ec:zat W S ps (f s)) (SS:Ext S0 n0 S W) (hq:¬S q) (Lc:v.ownBlock≠some q)
 (hg:W.grownBy W2 (some q)) (hx:W2.heap[xb]? =some (.cells #[.pointer op, .int .i64 iv] 244 (0,0))) (Fw:l= []∨∃(l':List (Nat × Nat)) (p i:Nat),l=l'++ [(p,i)]∧op=some ⟨p,0,none⟩∧iv=i∧zZ W2 q l')
 (hb:Below n0 w W) (IL:n0≤q) (hW:n0≤W.heap.size) (IK:q < W.heap.size) (Q8:W.heap.size≤xb):
 zlR w S0 n0 k t f q xb v (.bool (!decide (l= []))) l W2:=by
 have hlt:=SS.lt;have hs:zbk S W W2:=fun j hj=> hg.block j (hlt j hj) (fun e=> hq (Option.some.inj e ▸ hj));exact ⟨rfl,⟨m,s,ps,S,Jt,Af.kept hg (.inr Lc),Ec.same hs,SS.later hg.size,hq⟩,⟨op,iv,hx,Fw⟩,hb.grown hg hW (fun j hj=> by cases hj;exact IL),IL,by omega,zt IK hg.size⟩
end
section
open Go Go.RowKit Go.Shelf
attribute [local go_sem] Oper.semAt_some
end
section
open Go Go.RowKit Go.Shelf
attribute [local go_sem] Oper.semAt_some
end
section
open Go Go.RowKit Go.Shelf
attribute [local go_sem] Oper.semAt_some
theorem zK.heap {α:Type} {enc:α→List Value} {k:Nat} {e:TypeId} {w w':World} {B:Nat} {v:Value} {l:List α} (h:zK enc k e w B v l) (hs:∀g,v.ownBlock=some g→w'.heap[g]? =w.heap[g]?):zK enc k e w' B v l:=by
 refine ⟨h.1, ?_⟩;rcases h.2 with h2 | ⟨g,cap,cur,hv,hg,hh,r⟩
 ·exact .inl h2
 ·exact .inr ⟨g,cap,cur,hv,hg,(hs g (by rw [hv];rfl)).trans hh,r⟩
end
section
open Go Go.RowKit Go.Shelf
def zdE (l:List En) (v:Nat):List En:=l.filter fun x=> decide (zj x.1=v)
end
end Go.Proofs.YtfldlfladcfggaaGreat
