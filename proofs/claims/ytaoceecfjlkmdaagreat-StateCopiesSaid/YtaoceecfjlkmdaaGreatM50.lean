/- Lemmas of the walks, merged and pressed by press.py. Conditions: those of each theorem. -/
import Derived.Test.YtaoceecfjlkmdaaGreatM28
import Derived.Test.YtaoceecfjlkmdaaGreatM33
import Derived.Test.YtaoceecfjlkmdaaGreatM38
import Derived.Test.YtaoceecfjlkmdaaGreatM30
set_option maxRecDepth 100000
set_option maxHeartbeats 64000000
set_option linter.all false
namespace Go.Proofs.YtaoceecfjlkmdaaGreat
open Tryz
section
open Go.RowKit
set_option linter.unusedSectionVars false
set_option maxRecDepth 100000
set_option maxHeartbeats 16000000
def zoQ (l:List Nat) (n:Nat):Nat:=(l.takeWhile fun x=> decide (x < n)).length
def zqy (l:List Nat) (n:Nat):List Nat:=if l[zoQ l n]? =some n then l else l.take (zoQ l n)++ [n]++l.drop (zoQ l n)
theorem zqE (l:List Nat) (n:Nat):zoQ l n<=l.length:=(List.takeWhile_sublist _).length_le
theorem zqY {l:List Nat} {n i:Nat} (h:i < zoQ l n):∃y,l[i]? =some y/\y < n:=by
 induction l generalizing i with
 | nil=> cases h
 | cons z l ih=>
   unfold zoQ at h ih;rw [List.takeWhile_cons] at h
   by_cases hz:z < n
   ·simp only [hz,decide_true,if_true,List.length_cons] at h
    cases i with
    | zero=> exact ⟨z,rfl,hz⟩
    | succ i=> exact ih ud
   simp [hz] at h
theorem zqX {l:List Nat} {n y:Nat} (h:l[zoQ l n]? =some y):¬y < n:=by
 intro hy
 induction l with
 | nil=> simp at h
 | cons z l ih=>
   unfold zoQ at h ih;rw [List.takeWhile_cons] at h
   by_cases hz:z < n
   ·simp only [hz,decide_true,if_true,List.length_cons,List.getElem?_cons_succ] at h;exact ih h
   simp [hz] at h;omega
theorem zqN {l:List Nat} {n x:Nat}:x ∈ zqy l n↔x ∈ l\/x=n:=by
 unfold zqy
 split
 ·rename_i h
  exact ⟨.inl,fun e=> e.elim id fun e=> e ▸ zm h⟩
 conv=> rhs;rw [<- List.take_append_drop (zoQ l n) l]
 simp only [List.mem_append,List.mem_singleton];exact ⟨fun h=> by rcases h with (h | h) | h <;> simp [h],fun h=> by rcases h with (h | h) | h <;> simp [h]⟩
theorem zqO (l:List Nat) (n:Nat):(zqy l n).length<=l.length+1:=by
 unfold zqy
 split
 ·omega
 simp;have:=zqE l n;omega
attribute [local simp] Below.refl
theorem zqw (w:World):zK zb0 1 22 (w.alloc (.cells #[] 22)) w.heap.size (.slice (some ⟨w.heap.size,0,none⟩) 0 0) []:=World.ownsRow_made w #[] 0 zl (Nat.zero_le _) uh
theorem zqH {w:World} {a:Option Addr} {n:Nat} {l:List Nat} (h:zM zb0 1 w a n l) (k:Nat) (hk:k<=n) {X:Option Addr} (hX:k < n->X=a.map (·.add k)):zM zb0 1 w X (n - k) (l.drop k):=by
 refine ⟨by rw [List.length_drop,h.1],fun i r hr=> ?_⟩
 rw [List.getElem?_drop] at hr;have hi:=(zi hr).1;obtain ⟨b,o,rfl,h1⟩:=h.2 (k+i) r hr;refine ⟨b,o+k,by rw [hX (by have:=h.1;omega)];simp [zdt],fun j x hx=> ?_⟩
 rw [show o+k+i * 1+j=o+(k+i) * 1+j by omega]
 exact h1 j x hx
theorem pzF {p:Prop} (h:p:=by
 have q:=zK.appG zah uf zdG Tryz.underlying51 zfo rfl uf ho 1 BB uo hb.size;obtain ⟨v4,w4,eh,Bf,DH⟩:=q;have Ar:=Below.own hb ho DH zl hb.size;refine ap eh ⟨Ar,fun hS=> ?_⟩
 repeat refine sk ?_
 have q:=zK.appG zah uf zdG Tryz.underlying51 zfo rfl uf Bf (c - K) (hd.below Ar zl) uo Ar.size;obtain ⟨v5,w5,P5,AV,Bj⟩:=q;have Ag:=Below.own Ar Bf Bj zl Ar.size;refine ap P5 ⟨Ag,fun hS=> ?_⟩
 repeat refine tk ?_
 refine rz ?_;have q:=(HN.out ▸ AV:zK zb0 1 22 w5 w.heap.size v5 (zqy l x)).row zah;obtain ⟨L,hL⟩:∃L,zqy l x=L:=⟨_,rfl⟩;rw [hL] at q;obtain ⟨a5,c5,rfl,hr,FG,-⟩:=q;have HL:=zh hL;clear ho Bf AV DH Bj eh P5 HN hL
 go_wp2
 all_goals
  go_ret;refine ⟨_,rfl,a5,c5, ?_⟩;rw [HL.out];exact ⟨rfl,hr,FG,HB.out.trans (Ag.mono HB.out.size)⟩):p:=h
theorem zqW (w:World) (x:Nat):zK zb0 1 22 (w.alloc (.cells #[.int .u64 (x:Int)] 22)) w.heap.size (.slice (some ⟨w.heap.size,0,none⟩) 1 1) [x]:=
 ⟨by simp [zB,zb0], .inr ⟨w.heap.size,1,_,rfl,zl,heap_alloc_new w _,zl,ur,rfl,by simp [zB,zb0]⟩⟩
theorem zqx {w:World} {B n c:Nat} {a:Option Addr} {l:List Nat} (h:zK zb0 1 22 w B (.slice a n c) l):zM zb0 1 w a n l:=by
 obtain ⟨a',c',e,hr,-⟩:=h.row zah
 cases e
 exact hr
theorem pzG {p:Prop} (h:p:=by
 have q:=zK.appG zah uf zdG Tryz.underlying51 zfo rfl uf he c (ht.below hb zl) uo hb.size;obtain ⟨v3,w3,KV,ho,hg⟩:=q;have Aj:w2.heap.size≠w.heap.size:=ud;replace hx:=hx.kept hg (.inr (by first | exact fun e=> Aj (Option.some.inj e) | exact fun e=> Aj (Option.some.inj e).symm))
 have hb:=Below.own hb he hg zl hb.size;refine ap KV ⟨hb,fun hS=> ?_⟩
 repeat refine sk ?_
 have BB:=zqx hx;exact pzF):p:=h
theorem pzA {p:Prop} (h:p:=by
 go_wp2
 refine rg (fun W=> Below w.heap.size w W) (fun hS=> ?_) zr.drew;refine te 1 ?_;refine te 2 ?_;refine te 3 ?_;refine te 5 ?_;refine te 8 ?_;refine te 9 ?_;refine te 10 ?_;refine s2 6 ?_ ?_
 ·intro w2 hw;have hb:Below w.heap.size w w2:=by rw [hw];exact zr.drew.alloc zl _
  have he:zK zb0 1 22 w2 w.heap.size (.slice (some ⟨w.heap.size,0,none⟩) 0 0) []:=by rw [hw];exact zqw w.drew
  have hz:w.heap.size < w2.heap.size:=by rw [hw];exact Nat.lt_of_lt_of_eq (Nat.lt_succ_self _) (World.alloc_size w _).symm
  clear hw;refine ⟨hb,fun hS=> ?_⟩
  repeat refine sk ?_
  have q:=zK.appG zah uf zdG Tryz.underlying51 zfo rfl uf he c (ht.below hb zl) uo hb.size;obtain ⟨v3,w3,KV,ho,hg⟩:=q;refine s2 6 (hy:=zoP rfl rfl rfl rfl KV) ?_ ?_
  ·rintro w4 rfl;have hb:=Below.own hb he hg zl hb.size;refine ⟨hb,fun hS=> ?_⟩
   repeat refine sk ?_
   refine so ?_;intro w5 hw;have BB:zM zb0 1 w5 (some ⟨w4.heap.size,0,none⟩) 1 [x]:=by rw [hw];exact zqx (zqW w4 x)
   have ho:zK zb0 1 22 w5 w.heap.size v3 ([]++l.take K):=by rw [hw];exact ho.alloc _
   have hb:Below w.heap.size w w5:=by rw [hw];exact hb.alloc hb.size _
   clear hw;refine ⟨hb,fun hS=> ?_⟩;exact pzF
  intro w4 hw;have hx:zK zb0 1 22 w4 w2.heap.size (.slice (some ⟨w2.heap.size,0,none⟩) 1 1) [x]:=by rw [hw];exact zqW w2 x
  have he:zK zb0 1 22 w4 w.heap.size (.slice (some ⟨w.heap.size,0,none⟩) 0 0) []:=by rw [hw];exact he.alloc _
  have hb:Below w.heap.size w w4:=by rw [hw];exact hb.alloc hb.size _
  clear hw ho hg KV;refine ⟨hb,fun hS=> ?_⟩;exact pzG
 intro w2 hw;have hb:Below w.heap.size w w2:=by rw [hw];exact zr.drew.alloc zl _
 have hx:zK zb0 1 22 w2 w.heap.size (.slice (some ⟨w.heap.size,0,none⟩) 1 1) [x]:=by rw [hw];exact zqW w.drew x
 have hz:w.heap.size < w2.heap.size:=by rw [hw];exact Nat.lt_of_lt_of_eq (Nat.lt_succ_self _) (World.alloc_size w _).symm
 clear hw;refine ⟨hb,fun hS=> ?_⟩;refine so ?_;intro w4 hw;have he:zK zb0 1 22 w4 w2.heap.size (.slice (some ⟨w2.heap.size,0,none⟩) 0 0) []:=by rw [hw];exact zqw w2
 have he:=zK.base he hb.size;have hx:zK zb0 1 22 w4 w.heap.size (.slice (some ⟨w.heap.size,0,none⟩) 1 1) [x]:=by rw [hw];exact hx.alloc _
 have hb:Below w.heap.size w w4:=by rw [hw];exact hb.alloc hb.size _
 clear hw;refine ⟨hb,fun hS=> ?_⟩
 repeat refine sk ?_
 exact pzG):p:=h
def SlR (w0 w:World) (u:Value) (L:List Nat):Prop:=∃a c,u= .slice a L.length c/\zM zb0 1 w a L.length L/\L.length<=c/\Below w0.heap.size w0 w
theorem SlR.nil (w:World):SlR w w (.slice none 0 0) []:=⟨none,0,rfl,zM.nil _ _ _ _,zl,Below.refl _ _⟩
theorem SlR.at {w0 w:World} {u:Value} {L:List Nat} (h:SlR w0 w u L):Below w0.heap.size w0 w:=h.choose_spec.choose_spec.2.2.2
theorem zqF {w0 w:World} {u:Value} {l:List Nat} (h:SlR w0 w u l) (hn:l.length<=100000) (x:Nat):
 Calls Tryz.prog 64 #[u, .int .u64 (x:Int)] w fun e w'=> ∃v,e= .returned v/\SlR w0 w' v (zqy l x):=by
 obtain ⟨a,c,rfl,h,hc,Aq⟩:=h;have Du:=zqE l x;generalize hl:l.length=n at *;have hd:zM zb0 1 w (if c=zoQ l x then a else a.map fun y=> y.add (zoQ l x)) (n - zoQ l x) (l.drop (zoQ l x)):=zqH h _ ud fun hlt=> by rw [if_neg ud]
 have ht:=h.take (zoQ l x) ud;have HB:=zh Aq;have k0:(0:Int)<=(zoQ l x:Int):=ud;have k1:(zoQ l x:Int)<=(c:Int):=ud;have k2:(zoQ l x:Int)<=(n:Int):=ud;have k3:(n:Int)<=(c:Int):=ud;have k4:zoQ l x<=c:=ud;clear Aq
 go_in
 go_wp2
 go_loop [5] (fun u=> ∃i:Nat,i<=zoQ l x/\u= .int .i64 i) (fun u=> n - (intOf u).toNat)
 case atStart=> exact ⟨0,Nat.zero_le _,rfl⟩
 case round=>
  obtain ⟨i,hi,rfl⟩:=hrel;have i0:(0:Int)<=(i:Int):=ud
  by_cases hk:i < zoQ l x
  ·obtain ⟨y,hy,qz⟩:=zqY hk;obtain ⟨b,o,rfl,AN⟩:=h.2 i y hy;have c0:=AN 0 _ rfl;simp only [Nat.add_zero,Nat.mul_one] at c0;have i1:(i:Int) < (n:Int):=ud;have i2:(y:Int) < (x:Int):=ud;clear hy AN hd
   go_wp2
   go_round
   case rel=> exact ⟨i+1,ud,by go_num⟩
   case measure=> simp [intOf];omega
  obtain rfl:i=zoQ l x:=ud;have AF:=@zqX l x;have hN:l[zoQ l x]? ≠some x->zqy l x=l.take (zoQ l x)++ [x]++l.drop (zoQ l x):=fun h=> by unfold zqy;rw [if_neg h]
  have I7:l[zoQ l x]? =some x->zqy l x=l:=fun h=> by unfold zqy;rw [if_pos h]
  generalize zoQ l x=K at *
  cases hk:l[K]? with
  | none=>
    have hn:=List.getElem?_eq_none_iff.1 hk;have i1:decide ((K:Int) < (n:Int))=false:=decide_eq_false ud;have HN:=zh (hN (by rw [hk];simp))
    clear hN I7 hk AF;exact pzA
  | some y=>
    have i1:(K:Int) < (n:Int):=by have:=(zi hk).1;omega
    have i2:¬(y:Int) < (x:Int):=by have:=AF hk;omega
    obtain ⟨b,o,rfl,AN⟩:=h.2 K y hk;have c0:=AN 0 _ rfl;simp only [Nat.add_zero,Nat.mul_one] at c0;simp only [Option.map_some,zdt] at hd
    by_cases hy:y=x
    ·subst hy;have i3:((y:Int)==(y:Int))=true:=uh;have HN:=zh (I7 hk);clear hN I7 hk AF AN hd
     go_wp2
     go_ret;exact ⟨.slice (some ⟨b,o,none⟩) n c,rfl,_,c,by rw [HN.out,hl],by rw [HN.out,hl];exact h,by rw [HN.out,hl];exact hc,HB.out⟩
    have i3:((y:Int)==(x:Int))=false:=by rw [beq_eq_false_iff_ne];omega
    have HN:=zh (hN (by rw [hk];simpa using hy))
    clear hN I7 hk AF AN hy;exact pzA
theorem zqM (l:List Nat):∀(o:List Nat) {x:Nat},x ∈ l.foldl zqy o↔x ∈ o\/x ∈ l:=by
 induction l with
 | nil=> simp
 | cons y l ih=> intro o x;rw [List.foldl_cons,ih,zqN,List.mem_cons];exact or_assoc
theorem zpE (l:List Nat):∀o:List Nat,(l.foldl zqy o).length<=o.length+l.length:=by
 induction l with
 | nil=> simp
 | cons y l ih=> intro o;have:=ih (zqy o y);have:=zqO o y;rw [List.foldl_cons,List.length_cons];omega
def ofR (c:Ct) (v:Int):List Nat:=(c.ofL v).foldl zqy []
section
variable {Q:Nat→Prop} {w:World} {h:Ch} {c:Ct} {s k:Nat}
def bkL (v:Int) (l:List Bh):List Nat:=(l.filter fun b=> decide (v ∈ b.v.ms)).map (·.v.seq)
def zqS (v:Int) (l:List Int):Bool:=decide (v ∈ l)
theorem zqD (v:Int) {l:List Int} {k:Nat} {y:Int} (h:l[k]? =some y):zqS v (l.take (k+1))=(zqS v (l.take k) || decide (y=v)):=by
 unfold zqS;rw [List.take_add_one,h]
 show decide (v ∈ _++ [y])=_
 rw [Bool.eq_iff_iff,Bool.or_eq_true,decide_eq_true_eq,decide_eq_true_eq,decide_eq_true_eq,List.mem_append,List.mem_singleton];exact or_congr Iff.rfl eq_comm
theorem zqT (v:Int) {l:List Bh} {j:Nat} {x:Bh} (h:l[j]? =some x):bkL v (l.take (j+1))=bkL v (l.take j)++if zqS v x.v.ms=true then [x.v.seq] else []:=by
 unfold bkL zqS;rw [List.take_add_one,h,List.filter_append,List.map_append]
 by_cases hm:v ∈ x.v.ms <;> simp [hm]
theorem zq1 (hc:zaV Q w h c) (hi:CtI c s k) (v:Int) (hv:v≠0):
 Calls Tryz.prog 29 #[h.val c, .int .i64 v] w fun e w'=> ∃u,e= .returned u/\SlR w w' u (ofR c v):=by
 obtain ⟨w1,Ab,Aa,Ai,X⟩:=zqU w (h.cells c) 54;have HL:=zh (zn hi.klen (zn hi.blen fun x (hx:x ∈ h.bl)=> show x.v.ms.length<=8 from (hi.books x.v uK).2.2.len));have HK:=zh fun (W:World) (hW:Below w1.heap.size w1 W)=> ((hc.below Aa).below hW).kept.row.2;have GZ:=zh fun (W:World) (hW:Below w1.heap.size w1 W)=> ((hc.below Aa).below hW).books;have Ul:(v==0)=false:=by rw [beq_eq_false_iff_ne];exact hv
 have E8:h.bl.length=c.books.length:=by rw [<- hc.booksE,List.length_map]
 unfold Ch.val Ch.cells at *;have HO:Hid (c.ofL v=c.kept++bkL v h.bl):=zh (by unfold Ct.ofL bkL;rw [<- hc.booksE,List.filter_map,List.map_map];rfl)
 unfold ofR;generalize c.ofL v=L at *;generalize h.ka=ka at *;generalize h.ba=ba at *;generalize h.bl=bl at *;generalize c.kept=kept at *;generalize c.books.length=nb at *;have x6:∀W,Below w1.heap.size w1 W->W.cell? ⟨w.heap.size,6,none⟩=some (.slice ba nb h.bc):=fun W hW=> (X W hW 6).1;have x7:∀W,Below w1.heap.size w1 W->W.cell? ⟨w.heap.size,7,none⟩=some (.slice ka kept.length h.kc):=fun W hW=> (X W hW 7).1;have Du:kept.length<=1000:=by have:=HL.out.1;omega
 have C5:nb<=8:=HL.out.2.1;clear X;clear hc hi hv
 go_in
 go_wp2
 rw [<- Ab];clear Ab
 go_loopw [5,6] (fun u i wr=> ∃j:Nat,j<=kept.length/\i= .int .i64 j/\SlR w1 wr u ((kept.take j).foldl zqy [])) (fun _ i _=> kept.length - (intOf i).toNat)
 case atStart=> exact ⟨0,Nat.zero_le _,rfl,SlR.nil _⟩
 case round=>
  obtain ⟨j,hj,rfl,hS⟩:=hrel;have hb:=hS.at
  by_cases hlt:j < kept.length
  ·obtain ⟨x,hx⟩:∃x,kept[j]? =some x:=⟨_,ze hlt⟩;obtain ⟨b,o,rfl,AN⟩:=HK.out wr hb j x hx;have c0:=AN 0 _ rfl;simp only [Nat.add_zero,Nat.mul_one] at c0;have HP:=zh (zqF hS (by have h1:=zpE (kept.take j) [];have:=HL.out.1;simp only [List.length_nil,List.length_take] at h1;omega) x)
   have i0:(0:Int)<=(j:Int):=ud;have i1:(j:Int) < (kept.length:Int):=ud;have HX:=zh hx;have x7:=x7 _ hb;clear hx AN hS x6;go_wp2_with fail;refine HP.out.mono ?_;rintro e w3 ⟨v',rfl,CJ⟩;clear HP
   go_wp2
   go_roundw
   case rel=> exact ⟨j+1,ud,by go_num,by rw [List.take_add_one,HX.out,List.foldl_append];exact CJ⟩
   case measure=> simp [intOf];omega
  obtain rfl :j=kept.length:=ud;rw [zk zl] at hS;have i0:decide ((kept.length:Int) < (kept.length:Int))=false:=decide_eq_false ud;have x7:=x7 _ hb
  go_wp2
  rename World=> wo
  go_loopw [5,7] (fun u i wr=> ∃j:Nat,j<=nb/\i= .int .i64 j/\SlR w1 wr u ((kept++bkL v (bl.take j)).foldl zqy [])) (fun _ i _=> nb - (intOf i).toNat)
  case atStart=> exact ⟨0,Nat.zero_le _,rfl,by simpa [bkL] using hS⟩
  case round =>
       clear hS hb i0 x7;obtain ⟨j,hj,rfl,hS⟩:=hrel;have hb:=hS.at
       by_cases hlt:j < nb
       ·obtain ⟨x,hx⟩:∃x,bl[j]? =some x:=⟨_,ze ud⟩;obtain ⟨b,o,rfl,AN⟩:=(GZ.out wr hb).row.row.2 j x hx;have AP:=((GZ.out wr hb).sub x (zm hx)).row;have c1:=AN 1 _ rfl;have c2:=AN 2 _ rfl;have HP:=zh (zqF hS (by have:=zpE (kept++bkL v (bl.take j)) [];have:=HL.out.1;have:=HL.out.2.1;have:=List.length_filter_le (fun b:Bh=> decide (v ∈ b.v.ms)) (bl.take j);simp [bkL] at *;omega) x.v.seq)
        have i0:(0:Int)<=(j:Int):=ud;have i1:(j:Int) < (nb:Int):=ud;have HX:=zh hx;have HS:=zh hS;have x6:=x6 _ hb;have FW:x.v.ms.length<=8:=HL.out.2.2 x (zm hx);have Rc:=zh (zqT v hx);generalize x.v.ms=ms at *;generalize x.v.seq=sq at *;generalize x.a=xa at *;clear hx AN hS HK GZ
        go_wp2
        go_loop [8,9] (fun u8 u9=> ∃k:Nat,k<=ms.length/\u9= .int .i64 k/\u8= .bool (zqS v (ms.take k))) (fun _ u9=> ms.length - (intOf u9).toNat)
        case atStart=> exact ⟨0,Nat.zero_le _,rfl,rfl⟩
        case round=>
         obtain ⟨k,hk,rfl,rfl⟩:=hrel;have k0:(0:Int)<=(k:Int):=ud
         by_cases Du:k < ms.length
         ·obtain ⟨y,hy⟩:∃y,ms[k]? =some y:=⟨_,ze Du⟩;obtain ⟨b',o',rfl,bV⟩:=AP.2 k y hy;have d0:=bV 0 _ rfl;simp only [Nat.add_zero,Nat.mul_one] at d0;have k1:(k:Int) < (ms.length:Int):=ud;have HN:=zh (zqD v hy);clear hy bV
          cases Ja:zqS v (ms.take k) with
          | true=>
            go_wp2
            go_round
            case rel=> exact ⟨k+1,ud,by go_num,by rw [HN.out,Ja];rfl⟩
            case measure=> simp [intOf];omega
          | false=>
            rw [Ja] at HN;have HN:=zh HN.out;clear Ja
            by_cases hy:y=v
            ·have k2:(y==v)=true:=by simpa using hy
             go_wp2
             go_round
             case rel=> exact ⟨k+1,ud,by go_num,by rw [HN.out];simp [hy]⟩
             case measure=> simp [intOf];omega
            have k2:(y==v)=false:=by simpa using hy
            go_wp2
            go_round
            case rel=> exact ⟨k+1,ud,by go_num,by rw [HN.out];simp [hy]⟩
            case measure=> simp [intOf];omega
         obtain rfl:k=ms.length:=ud;have k1:decide ((ms.length:Int) < (ms.length:Int))=false:=decide_eq_false ud;rw [zk zl]
         cases Ja:zqS v ms with
         | true=>
           rw [Ja,if_pos rfl] at Rc;go_wp2_with fail;refine HP.out.mono ?_;rintro e w3 ⟨v',rfl,CJ⟩;clear HP
           go_wp2
           go_roundw
           case rel=> exact ⟨j+1,ud,by go_num,by rw [Rc.out,<- List.append_assoc,List.foldl_append];exact CJ⟩
           case measure=> simp [intOf];omega
         | false=>
           rw [Ja,if_neg uf,List.append_nil] at Rc
           go_wp2
           go_roundw
           case rel=> exact ⟨j+1,ud,by go_num,by rw [Rc.out];exact HS.out⟩
           case measure=> simp [intOf];omega
       obtain rfl:j=nb:=ud;have HS:=zh hS;have i0:decide ((j:Int) < (j:Int))=false:=decide_eq_false ud;have x6:=x6 _ hb;rw [zk ud] at HS;clear hS
       go_wp2
       go_ret;obtain ⟨a,c,e,hr,hc,E7⟩:=HS.out;rw [HO.out];exact ⟨_,rfl,a,c,e,hr,hc,Aa.trans (E7.mono Aa.size)⟩
theorem zoO (tmps:Array Value) (B:Nat) (e v0 v1 v2:Value) (W:World) (h:tmps[4]? =some (.pointer (some ⟨B,0,none⟩))) (h5:tmps[5]? =some e) (q:W.heap[B]? =some (.cells #[v0,v1,v2] 86 (0,0))):
 (results Tryz.f28 tmps).run Tryz.prog W= .ok (.tuple #[.agg #[v0,v1,v2],e]) W:=by
 obtain ⟨q0,q1,q2,-⟩:=zbb q;simp [results,Tryz.results28,go_sem,h,h5,q0,q1,q2]
theorem zqK (hc:zaV Q w h c) (hn:c.vols.length<=1000000) (id:Int):
 Calls Tryz.prog 28 #[h.val c, .int .i64 id] w fun e w'=> e= .returned (.tuple #[znH (h.vl.find? fun x=> decide ((x.v.id:Int)=id)), .bool (h.vl.find? fun x=> decide ((x.v.id:Int)=id)).isSome])/\Below w.heap.size w w':=by
 obtain ⟨w1,Ab,Aa,Ai,X⟩:=zqU w (h.cells c) 54;obtain ⟨w2,GV,Ae,Ax,Y⟩:=zqU w1 #[.int .i64 0, .int .u64 0, .slice none 0 0] 86;have hY:w2.heap[w1.heap.size]? =some (.cells #[.int .i64 0, .int .u64 0, .slice none 0 0] 86 (0,0)):=by rw [GV];exact heap_alloc_new w1 _
 have hR:=((hc.below Aa).below Ae).vols.row.row.2;have FL:h.vl.length=c.vols.length:=by rw [<- hc.volsE,List.length_map]
 unfold Ch.val Ch.cells at *;have x4:w2.cell? ⟨w.heap.size,4,none⟩=some (.slice h.va c.vols.length h.vc):=(X w2 Ae 4).1;have HB:=zh (Aa.trans (Ae.mono Aa.size));have HZ:=zh Aa.size;have y:=zbb hY;obtain ⟨y0,y1,y2,yf⟩:=y;have f0:=yf 0;have f1:=yf 1;have f2:=yf 2;rw [Ai] at hY y0 y1 y2 f0 f1 f2;have HY:=zh hY;generalize h.va=va at *;generalize h.vl=vl at *;generalize c.vols.length=n at *;rw [Ab] at GV;clear hc X Y yf hY Aa Ae Ax Ai Ab
 go_in
 go_wp2
 rw [<- GV];clear GV
 go_loop [6] (fun u=> ∃i:Nat,i<=n/\u= .int .i64 i/\Hid (∀y ∈ vl.take i,decide ((y.v.id:Int)=id)=false)) (fun u=> n - (intOf u).toNat)
 case atStart=> exact ⟨0,Nat.zero_le _,rfl,by simp [Hid]⟩
 case round=>
  obtain ⟨i,hi,rfl,HR⟩:=hrel;have i0:(0:Int)<=(i:Int):=ud
  by_cases hlt:i < n
  ·have i1:(i:Int) < (n:Int):=ud;obtain ⟨x,hx⟩:∃x,vl[i]? =some x:=⟨_,ze ud⟩;obtain ⟨b,o,rfl,AN⟩:=hR i x hx;have c0:=AN 0 _ rfl;have c1:=AN 1 _ rfl;have c2:=AN 2 _ rfl;simp only [Nat.add_zero] at c0;have HX:=zh hx;clear hx AN hR
   by_cases hd:(x.v.id:Int)=id
   ·have z:((x.v.id:Int)==id)=true:=by rw [hd];simp
    have HF:=zh ((zbi (zdk HX.out (decide_eq_true hd) HR.out)).1.trans HX.out);clear hd;go_wp2_with fail;refine bodyPost_ret (zoO _ (w.heap.size+1) _ _ _ _ _ rfl rfl (zlT HY.out _ _ _)) rfl ?_;exact ⟨by rw [HF.out];rfl,zaq HB.out (Nat.le_succ _) _ _ _⟩
   have z:((x.v.id:Int)==id)=false:=by rw [beq_eq_false_iff_ne];exact hd
   have HF:Hid (∀y ∈ vl.take (i+1),decide ((y.v.id:Int)=id)=false):=zh fun y hy=> by
    rw [List.take_add_one,HX.out] at hy;rcases List.mem_append.1 hy with hy | hy
    ·exact HR.out y hy
    simp at hy;subst hy;exact decide_eq_false hd
   clear hd
   go_wp2
   go_round
   case rel=> exact ⟨i+1,ud,by go_num,HF⟩
   case measure=> simp [intOf];omega
  obtain rfl:n=i:=ud;have HF:=zh (zbt (zdM (l:=vl) (p:=fun x=> decide ((x.v.id:Int)=id)) (fun y hy=> HR.out y (by rw [zk ud];exact hy))))
  go_wp2_with fail;refine bodyPost_ret (zoO _ (w.heap.size+1) _ _ _ _ _ rfl rfl (zlT HY.out _ _ _)) rfl ?_;exact ⟨by rw [HF.out];rfl,zaq HB.out (Nat.le_succ _) _ _ _⟩
theorem zqV (hc:zaV Q w h c) (hi:CtI c s k) (v:Int) (t last:Nat):
 Calls Tryz.prog 15 #[h.val c, .int .i64 v, .int .u64 (t:Int), .int .u64 (last:Int)] w fun e w'=> e= .returned (.bool (c.may v t last))/\Below w.heap.size w w':=by
 obtain ⟨w1,Ab,Aa,Ai,-⟩:=zqU w (h.cells c) 54;have HX:=zh fun (W:World) (hW:Below w1.heap.size w1 W)=> zJ ((hW.block w.heap.size ud).trans (by rw [Ab];exact heap_alloc_new w _:w1.heap[w.heap.size]? =some (.cells (h.cells c) 54 (0,0))))
 have HF:=zh (zqK (hc.below Aa) (by have:=hi.vlen;omega) v)
 have HO:=zh fun (hv:v≠0) (W:World) (hW:Below w1.heap.size w1 W)=> zq1 ((hc.below Aa).below hW) hi v hv;have Io:=zh (zhC hc v);have HM:Hid (∀x:Vh,(h.vl.find? fun x=> decide ((x.v.id:Int)=v))=some x->v≠0/\c.may v t last=(decide (x.v.born<=t) && (decide (t<=last) && (decide (c.fl<=t) || decide (t ∈ ofR c v))))/\(ofR c v).length<=1000):=zh fun x hx=> by
  have hf:c.find v=some x.v:=by rw [Io.out,hx];rfl
  refine ⟨by have:=(zqs hi hf).1;omega, ?_,zs (zpE _ _) (by have:=zpq hi v;simpa using this)⟩
  unfold Ct.may;rw [hf,show decide (t ∈ ofR c v)=decide (t ∈ c.ofL v) from decide_eq_decide.2 (by unfold ofR;rw [zqM];simp)]
 have HN:Hid ((h.vl.find? fun x=> decide ((x.v.id:Int)=v))=none->c.may v t last=false):=zh fun hx=> by unfold Ct.may;rw [Io.out,hx];rfl
 have HB:=zh Aa;generalize (h.vl.find? fun x=> decide ((x.v.id:Int)=v))=vo at *;generalize ofR c v=L at *;unfold Ch.val Ch.cells at *;obtain ⟨x0,x1,x2,x3,x4,x5,x6,x7,x8,xf⟩:=HX.out w1 zr;clear hc hi xf Aa
 go_in
 go_upto_region 1 with fail;rw [<- Ab];clear Ab;go_wp2_with fail;refine HF.out.mono ?_;rintro e w2 ⟨rfl,Ae⟩
 cases vo with
 | none=>
   dsimp only [znH,Option.isSome]
   clear x0 x1 x2 x3 x4 x5 x6 x7 x8 HF;go_wp2_with fail;go_ret;exact ⟨by rw [HN.out trivial];rfl,(HB.out.trans (Ae.mono HB.out.size)).alloc (HB.out.trans (Ae.mono HB.out.size)).size _⟩
 | some x=>
   obtain ⟨hv,hm,hL⟩:=HM.out x rfl;have HM:=zh hm;have HO:=HO.out hv;have Am:=Ae.alloc Ae.size (.cells #[.int .i64 (x.v.id:Int), .int .u64 (x.v.born:Int), .slice x.a x.v.sizes.length x.c] 86);obtain ⟨x0,x1,x2,x3,x4,x5,x6,x7,x8,xf⟩:=HX.out _ Am;have HO:=zh (HO _ Am);have AI:=zh (HB.out.trans (Am.mono HB.out.size))
   dsimp only [znH,Option.isSome]
   have dO:=zh Am;clear hm Ae Am HF xf
   by_cases h1:t < x.v.born
   ·have i1:(t:Int) < (x.v.born:Int):=ud;go_wp2_with fail;go_ret;exact ⟨by rw [HM.out,decide_eq_false ud];rfl,AI.out⟩
   have i1:¬(t:Int) < (x.v.born:Int):=ud
   by_cases h2:last < t
   ·have i2:(last:Int) < (t:Int):=ud;go_wp2_with fail;go_ret;exact ⟨by rw [HM.out,decide_eq_false (show ¬t<=last by omega)];simp,AI.out⟩
   have i2:¬(last:Int) < (t:Int):=ud;have HM:=zh (HM.out.trans (by rw [decide_eq_true (show x.v.born<=t by omega),decide_eq_true (show t<=last by omega),Bool.true_and,Bool.true_and]))
   clear h1 h2;go_wp2_with fail;refine HO.out.mono ?_;rintro e w4 ⟨u,rfl,a,cc,rfl,hr,Ba,Ar⟩;have Cz:=zh (AI.out.trans (Ar.mono AI.out.size));have x3:=(HX.out _ (dO.out.trans (Ar.mono dO.out.size))).2.2.2.1;clear Ar HO x0 x1 x2 x4 x5 x6 x7 x8
   go_wp2
   go_loop [12] (fun u=> ∃i:Nat,i<=L.length/\u= .int .i64 i/\Hid (t ∉ L.take i)) (fun u=> L.length - (intOf u).toNat)
   case atStart=> exact ⟨0,Nat.zero_le _,rfl,by simp [Hid]⟩
   case round=>
    obtain ⟨i,hi,rfl,HT⟩:=hrel;have i0:(0:Int)<=(i:Int):=ud
    by_cases hlt:i < L.length
    ·have i4:(i:Int) < (L.length:Int):=ud;obtain ⟨y,hy⟩:∃y,L[i]? =some y:=⟨_,ze hlt⟩;obtain ⟨b,o,rfl,AN⟩:=hr.2 i y hy;have c0:=AN 0 _ rfl;simp only [Nat.add_zero,Nat.mul_one] at c0;have HY:=zh hy;clear hy AN hr
     by_cases hd:y=t
     ·subst hd;have z:((y:Int)==(y:Int))=true:=uh
      go_wp2
      go_ret;exact ⟨by rw [HM.out,decide_eq_true (zm HY.out)];simp,Cz.out⟩
     have z:((y:Int)==(t:Int))=false:=by rw [beq_eq_false_iff_ne];omega
     go_wp2
     go_round
     case rel=> exact ⟨i+1,ud,by go_num,zh (by rw [List.take_add_one,HY.out];simpa using ⟨HT.out,fun e=> hd e.symm⟩)⟩
     case measure=> simp [intOf];omega
    rw [zk ud] at HT;have i4:decide ((i:Int) < (L.length:Int))=false:=decide_eq_false ud
    go_wp2
    go_ret;exact ⟨by rw [HM.out,decide_eq_false HT.out];simp,Cz.out⟩
end
end
end Go.Proofs.YtaoceecfjlkmdaaGreat
