/- Lemmas of the walks, merged and pressed by press.py. Conditions: those of each theorem. -/
import Derived.Test.YtaoceecfjlkmdaaGreatM3
import Derived.Test.YtaoceecfjlkmdaaGreatM7
import Derived.Test.YtaoceecfjlkmdaaGreatM14
import Derived.Test.YtaoceecfjlkmdaaGreatM16
set_option maxRecDepth 100000
set_option maxHeartbeats 64000000
set_option linter.all false
namespace Go.Proofs.YtaoceecfjlkmdaaGreat
open Tryz
variable {es l l':List En} {F F':List Nat} {L L':List Uc} {B i k n pa ph pt:Nat} {D D' E E1 S S':Nat→Prop} {t:TypeId} {v:Value} {w w' w1 w2 wr:World}
section
open Go.RowKit
structure zaF (w:World) (ph pt pa:Nat) (l:List En) (F:List Nat) (L:List Uc) (n:Nat) (E:Nat->Prop):Prop where
 has:∃(S D:Nat->Prop),w.heap[ph]? =some (.cells #[zv pt,zv pa] 104)/\za5 w S pt l/\zX w pa F L n D/\(∀j,E j↔j=ph\/j=pt\/S j\/D j)/\¬S ph/\¬D ph/\ph≠pt/\¬D pt/\∀j,S j->¬D j
theorem zaF.kept (h:zaF w ph pt pa l F L n E) (hk:zbD E w w'):zaF w' ph pt pa l F L n E:=by
 obtain ⟨S,D,h1,h2,h3,h4,h5⟩:=h.has;exact ⟨S,D,(hk.block _ ((h4 _).2 (.inl rfl))).trans h1,h2.same (fun j hj=> hk.block _ ((h4 _).2 (.inr (.inr (.inl hj))))) (hk.block _ ((h4 _).2 (.inr (.inl rfl)))) hk.size,h3.kept (hk.less fun j hj=> (h4 j).2 (.inr (.inr (.inr hj)))),h4,h5⟩
theorem zaF.lt (h:zaF w ph pt pa l F L n E):∀j,E j->j < ↑w:=by
 obtain ⟨S,D,h1,h2,h3,h4,h5⟩:=h.has;intro j hj;rcases (h4 j).1 hj with rfl | rfl | hj | hj
 ·exact (zg h1).1
 ·exact h2.ptlt
 ·exact h2.lt j hj
 exact h3.lt j hj
theorem zaF.below (h:zaF w ph pt pa l F L n E) (hb:θ w w w'):zaF w' ph pt pa l F L n E:=h.kept (zbD.of_below hb h.lt)
theorem zaF.rise (h:zaF w ph pt pa l F L n E):zac l:=by
 obtain ⟨S,D,h1,h2,h3,h4,h5⟩:=h.has;exact h2.rise
theorem zaF.reads (h:zaF w ph pt pa l F L n E):w ph=some (zv pt)/\w (ph 1 ())=some (zv pa):=by
 obtain ⟨S,D,h1,-⟩:=h.has;exact ⟨cell_of_row w ph 0 _ _ _ h1,cell_of_row w ph 1 _ _ _ h1⟩
theorem zaF.hlt (h:zaF w ph pt pa l F L n E):ph < ↑w:=by
 obtain ⟨S,D,h1,-⟩:=h.has;exact (zg h1).1
def HT (ph pt pa n:Nat) (E:Nat->Prop) (w:World) (l:List En) (F:List Nat) (L:List Uc) (w':World):Prop:=∃E',zaF w' ph pt pa l F L n E'/\zba E w E' w'/\zD E w w'
theorem HT.pre (h:HT ph pt pa n E w1 l F L w') (hb:θ w w w1) (hE:∀j,E j->j < ↑w):HT ph pt pa n E w l F L w':=by
 obtain ⟨E',h1,h2,h3⟩:=h;exact ⟨E',h1,(zba.refl hE hb.size).trans h2 hb.size,(zD.of_below hb).trans h3 fun j hj=> .inl hj⟩
theorem HT.trans (hg:zba E w E1 w1) (ho:zD E w w1) (h:HT ph pt pa n E1 w1 l F L w'):HT ph pt pa n E w l F L w':=by
 obtain ⟨E',h1,h2,h3⟩:=h;exact ⟨E',h1,hg.trans h2 ho.size,ho.trans h3 hg.new⟩
theorem HT.post (h:HT ph pt pa n E w l F L w1) (hb:θ w1 w1 w'):HT ph pt pa n E w l F L w':=by
 obtain ⟨E',h1,h2,h3⟩:=h;exact ⟨E',h1.below hb,⟨h2.new,fun j hj=> zt (h2.lt j hj) hb.size⟩,h3.trans (zD.of_below (D:=E) hb) fun j hj=> .inl hj⟩
theorem HT.refl (h:zaF w ph pt pa l F L n E):HT ph pt pa n E w l F L w:=⟨E,h,zba.refl h.lt zl,zD.refl _ _⟩
theorem zaF.treed 
 (h1:w.heap[ph]? =some (.cells #[zv pt,zv pa] 104)) (h2:za5 w S pt l) (h3:zX w pa F L n D) (h4:∀j,E j↔j=ph\/j=pt\/S j\/D j) (h5:¬S ph/\¬D ph/\ph≠pt/\¬D pt/\∀j,S j->¬D j)
 (hT:za5 w' S' pt l') (hx:Ext S ↑w S' w') (hg:w.grownBy w' (some pt)):HT ph pt pa n E w l' F L w':=by
 obtain ⟨k1,k2,k3,k4,k5⟩:=h5;have Ih:=(zg h1).1;have hD:=h3.lt;have BT:∀j,j < ↑w->j≠pt->w'.heap[j]? =w.heap[j]? :=fun j hj Aj=> hg.block j hj (fun e=> Aj (Option.some.inj e));have W9:∀j,D j->j≠pt:=fun j hj e=> k4 (e ▸ hj);refine ⟨fun j=> j=ph\/j=pt\/S' j\/D j,⟨S',D,(BT ph Ih k3).trans h1,hT,h3.kept ⟨hg.os,hg.tape,hg.output,hg.size,fun j hj=> BT j (hD j hj) (W9 j hj)⟩,fun j=> Iff.rfl,fun e=> ?_,k2,k3,k4,fun j hj e=> ?_⟩,⟨fun j hj=> ?_,fun j hj=> ?_⟩,⟨hg.os,hg.tape,hg.output,hg.size,fun j hj hn=> BT j hj (fun e=> hn ((h4 j).2 (.inr (.inl e))))⟩⟩
 ·rcases hx.new _ e with h | h
  ·exact k1 h
  omega
 ·rcases hx.new _ hj with h | h
  ·exact k5 j h e
  have:=hD j e;omega
 ·rcases hj with rfl | rfl | hj | hj
  ·exact .inl ((h4 _).2 (.inl rfl))
  ·exact .inl ((h4 _).2 (.inr (.inl rfl)))
  ·rcases hx.new _ hj with h | h
   ·exact .inl ((h4 _).2 (.inr (.inr (.inl h))))
   exact .inr h
  exact .inl ((h4 _).2 (.inr (.inr (.inr hj))))
 rcases hj with rfl | rfl | hj | hj
 ·exact zt Ih hg.size
 ·exact hT.ptlt
 ·exact hT.lt j hj
 exact zt (hD j hj) hg.size
theorem zaF.alloced 
 (h1:w.heap[ph]? =some (.cells #[zv pt,zv pa] 104)) (h2:za5 w S pt l) (h3:zX w pa F L n D) (h4:∀j,E j↔j=ph\/j=pt\/S j\/D j) (h5:¬S ph/\¬D ph/\ph≠pt/\¬D pt/\∀j,S j->¬D j)
 (hA:zX w' pa F' L' n D') (hg:zba D w D' w') (ho:zD D w w'):HT ph pt pa n E w l F' L' w':=by
 obtain ⟨k1,k2,k3,k4,k5⟩:=h5;have Ih:=(zg h1).1;have BZ:=h2.ptlt;have hS:=h2.lt;have PX:∀j,j < ↑w->D' j->D j:=fun j hj hd=> by
  rcases hg.new j hd with h | h
  ·exact h
  omega
 refine ⟨fun j=> j=ph\/j=pt\/S j\/D' j,⟨S,D',(ho.block ph Ih k2).trans h1,h2.same (fun j hj=> ho.block j (hS j hj) (k5 j hj)) (ho.block pt BZ k4) ho.size,hA,fun j=> Iff.rfl,k1,fun e=> k2 (PX _ Ih e),k3,fun e=> k4 (PX _ BZ e),fun j hj e=> k5 j hj (PX j (hS j hj) e)⟩,⟨fun j hj=> ?_,fun j hj=> ?_⟩,ho.more fun j hj=> (h4 j).2 (.inr (.inr (.inr hj)))⟩
 ·rcases hj with rfl | rfl | hj | hj
  ·exact .inl ((h4 _).2 (.inl rfl))
  ·exact .inl ((h4 _).2 (.inr (.inl rfl)))
  ·exact .inl ((h4 _).2 (.inr (.inr (.inl hj))))
  rcases hg.new _ hj with h | h
  ·exact .inl ((h4 _).2 (.inr (.inr (.inr h))))
  exact .inr h
 rcases hj with rfl | rfl | hj | hj
 ·exact zt Ih ho.size
 ·exact zt BZ ho.size
 ·exact zt (hS j hj) ho.size
 exact hA.lt j hj
theorem zfQ (h:zX w pa F L n D):
 χ 37 #[zv pa] w fun e w'=> ∃ph pt E,e=ρ (zv ph)/\zaF w' ph pt pa [] F L n E/\(∀j,E j->D j\/↑w<=j)/\θ w w w':=by
 have HH:=zh h;unfold zv;go_in;go_wp2;go_ret;have C6:(w.alloc (.cells #[π none,ι 0] 159)).heap.size=w.heap.size+1:=uh;have hx:=heap_alloc_new (w.alloc (.cells #[π none,ι 0] 159)) (.cells #[π (some ↑w),π (some ↑pa)] 104);rw [C6] at hx;have hb:θ w w ((w.alloc (.cells #[π none,ι 0] 159)).alloc (.cells #[π (some ↑w),π (some ↑pa)] 104)):=(zr.alloc zl _).alloc ud _;have hlt:=HH.out.lt;refine ⟨↑w+1,↑w,fun j=> j=w.heap.size+1\/j=↑w\/False\/D j,rfl,⟨fun _=> False,D,hx,⟨List.Pairwise.nil,fun j hj=> hj.elim,id, .inl ⟨rfl, ?_⟩⟩,HH.out.kept (zbD.of_below hb hlt),fun j=> Iff.rfl,id,fun e=> ?_,ud,fun e=> ?_,fun j hj=> hj.elim⟩,fun j hj=> ?_,hb⟩
 ·unfold zaw;rw [Below.heap_alloc _ _ _ ud];exact heap_alloc_new w _
 ·have:=hlt _ e;omega
 ·have:=hlt _ e;omega
 rcases hj with rfl | rfl | hj | hj
 ·exact .inr ud
 ·exact .inr ud
 ·exact hj.elim
 exact .inl hj
theorem zjl (h:zaF w ph pt pa l F L n E) (hl:l.length<=2000) (k a:Nat):
 χ 69 #[zv ph,za2 k,ν a] w fun e w'=> e=ρ (.tuple #[])/\HT ph pt pa n E w (zaR l (k,a)) F L w':=by
 have Aq:θ w.heap.size w (w.alloc (.cells #[τ (zj k),ν (zo k),υ (zp k)] 111)):=zr.alloc zl _;have x0:(w.alloc (.cells #[τ (zj k),ν (zo k),υ (zp k)] 111)).cell? ⟨w.heap.size,0,none⟩=some (τ (zj k)):=by simp
 have x1:(w.alloc (.cells #[τ (zj k),ν (zo k),υ (zp k)] 111)).cell? ⟨w.heap.size,1,none⟩=some (ν (zo k)):=by simp
 have x2:(w.alloc (.cells #[τ (zj k),ν (zo k),υ (zp k)] 111)).cell? ⟨w.heap.size,2,none⟩=some (υ (zp k)):=by simp
 have hE:=h.lt;have h':=h.below Aq;obtain ⟨x3,-⟩:=h'.reads;have h'':=h'.below (w':=(w.alloc (.cells #[τ (zj k),ν (zo k),υ (zp k)] 111)).drew) (Below.drewB zr);obtain ⟨S,D,h1,h2,h3,h4,h5⟩:=h''.has;have HS:=zh (zpz h2 hl (k,a));have Y4:pt < w.heap.size:=hE pt ((h4 pt).2 (.inr (.inl rfl)));have Ni:∀w5:World,(w.alloc (.cells #[τ (zj k),ν (zo k),υ (zp k)] 111)).drew.grownBy w5 (some pt)->w5.cell? ⟨w.heap.size,0,none⟩=some (τ (zj k))/\w5.cell? ⟨w.heap.size,1,none⟩=some (ν (zo k))/\w5.cell? ⟨w.heap.size,2,none⟩=some (υ (zp k))/\w5.cell? ⟨ph,0,none⟩=some (zv pt):=fun w5 hg=> by
  have e1:=hg.block w.heap.size (by show w.heap.size < (w.alloc _).heap.size;rw [World.alloc_size];omega) (fun e=> by have:=Option.some.inj e;omega)
  have e2:=hg.block ph (zg h1).1 (fun e=> h5.2.2.1 (Option.some.inj e));exact ⟨(World.cell?_of_block e1).trans x0,(World.cell?_of_block e1).trans x1,(World.cell?_of_block e1).trans x2,(World.cell?_of_block e2).trans x3⟩
 have Rk:=zh Ni;have AJ:=zh (fun (w':World) S' (hT:za5 w' S' pt (zaR l (k,a))) hx hg=> HT.pre (HT.pre (zaF.treed h1 h2 h3 h4 h5 hT hx hg) (Below.drewB zr) h'.lt) Aq hE);unfold zv za2 at *;unfold zd1 at HS;clear h h' h'' h1 h2 h3 h4 h5 hE Aq Y4 Ni;go_enter func69,ntmps69;go_wp2_with fail;generalize Zu:(w.alloc (.cells #[τ (zj k),ν (zo k),υ (zp k)] 111))=w0 at *;generalize hB:w.heap.size=B at *;clear Zu hB;have hS:w0.drew.cell? ⟨B,0,none⟩=some (τ (zj k))/\w0.drew.cell? ⟨B,1,none⟩=some (ν (zo k))/\w0.drew.cell? ⟨B,2,none⟩=some (υ (zp k))/\w0.drew.cell? ⟨ph,0,none⟩=some (π (some ⟨pt,0,none⟩)):=⟨x0,x1,x2,x3⟩
 go_region_held (fun W'=> W'.cell? ⟨B,0,none⟩=some (τ (zj k))/\W'.cell? ⟨B,1,none⟩=some (ν (zo k))/\W'.cell? ⟨B,2,none⟩=some (υ (zp k))/\W'.cell? ⟨ph,0,none⟩=some (π (some ⟨pt,0,none⟩))) (first | exact Ca | exact hS)
  (first | (go_at_call 114;refine HS.out.mono ?_;rintro e w5 ⟨v,S',rfl,hT,hx,hg⟩;have Ca:=Rk.out w5 hg;have HR:=zh (AJ.out w5 S' hT hx hg);clear hT hx hg))
 all_goals
  go_wp2_with fail;go_end0;exact ⟨rfl,HR.out⟩
theorem zlE (h:zaF w ph pt pa l F L n E) (hl:l.length<=2000) (k:Nat):
 χ 65 #[zv ph,za2 k,ν 0] w fun e w'=> e=ρ (.tuple #[])/\HT ph pt pa n E w (zaR l (k,0)) F L w':=by
 have Aq:θ w w (w.alloc (.cells #[τ (zj k),ν (zo k),υ (zp k)] 111)):=zr.alloc zl _;have HP:=zh (zjl (h.below Aq) hl k 0);have AJ:=zh (fun (w':World) (hr:HT ph pt pa n E (w.alloc (.cells #[τ (zj k),ν (zo k),υ (zp k)] 111)) (zaR l (k,0)) F L w')=> HT.pre hr Aq h.lt);unfold zv za2 at *;go_in;go_wp2_with fail;refine HP.out.mono ?_;rintro e w5 ⟨rfl,hr⟩;have HR:=zh (AJ.out w5 hr);go_wp2;go_end0;exact ⟨rfl,HR.out⟩
theorem zjv (h:zaF w ph pt pa l F L n E) (hl:l.length<=2000) (k a:Nat) (Mf:0 < a) (ha:a < 4294967296) (Em:0 < zan L a) (hc:zan L a < 1000000):
 χ 65 #[zv ph,za2 k,ν a] w fun e w'=> e=ρ (.tuple #[])/\HT ph pt pa n E w (zaR l (k,a)) F (zbV L a (zan L a+1)) w':=by
 have Aq:θ w w (w.alloc (.cells #[τ (zj k),ν (zo k),υ (zp k)] 111)):=zr.alloc zl _;have hE:=h.lt;have h':=h.below Aq;obtain ⟨-,x3⟩:=h'.reads;obtain ⟨S,D,h1,h2,h3,h4,h5⟩:=h'.has;have jd:∀j,D j->j < ↑w:=fun j hj=> hE j ((h4 j).2 (.inr (.inr (.inr hj))));have HH:=zh (zgz h3 a Mf ha Em hc);have hX:=heap_alloc_new w (.cells #[τ (zj k),ν (zo k),υ (zp k)] 111);have HK:=zh (fun (w':World) D' (hA:zX w' pa F (zbV L a (zan L a+1)) n D') hg ho=> zn (zaF.alloced h1 h2 h3 h4 h5 hA hg ho) (show w'.heap[w.heap.size]? =_ from (ho.block ↑w uw (fun e=> by have:=jd _ e;omega)).trans hX))
 have J2:=zh (fun (w':World) (hr:HT ph pt pa n E (w.alloc (.cells #[τ (zj k),ν (zo k),υ (zp k)] 111)) (zaR l (k,a)) F (zbV L a (zan L a+1)) w')=> HT.pre hr Aq hE);have z0:((a:Int)==0)=false:=by rw [beq_eq_false_iff_ne];omega
 have z1:((a:Int) !=0)=true:=by rw [bne_iff_ne];omega
 unfold zv za2 at *;generalize zan L a+1=c at *;go_in;go_wp2_with fail;refine HH.out.mono ?_;rintro e w5 ⟨D',rfl,hA,hg,ho⟩;obtain ⟨⟨E1,q1,q2,q3⟩,AH⟩:=HK.out w5 D' hA hg ho;have HP:=zh (zjl q1 hl k a);have AJ:=zh (fun (w':World) (hr:HT ph pt pa n E1 w5 (zaR l (k,a)) F (zbV L a c) w')=> J2.out w' (HT.trans q2 q3 hr));have y0:=cell_of_row w5 ↑w 0 _ _ _ AH;have y1:=cell_of_row w5 ↑w 1 _ _ _ AH;have y2:=cell_of_row w5 ↑w 2 _ _ _ AH;unfold zv za2 at HP;go_wp2_with fail;refine HP.out.mono ?_;rintro e w6 ⟨rfl,hr⟩;have HR:=zh (AJ.out w6 hr);go_wp2;go_end0;exact ⟨rfl,HR.out⟩
end
section
open Go.RowKit
theorem zj6:∀(n:Nat) (F:List Nat),F.Nodup->(∀x ∈ F,0 < x/\x<=n)->F.length<=n
 | 0,F,_,h=> by
   cases F with
   | nil=> simp
   | cons x F=> have:=h x List.mem_cons_self;omega
 | n +1,F,hn,h=> by
   have:=zj6 n (F.erase (n+1)) (hn.erase _) fun x hx=> by
     have Q7:=hn.mem_erase_iff.1 hx;have:=h x Q7.2
     omega
   by_cases hm:n+1 ∈ F
   ·rw [List.length_erase_of_mem hm] at this;omega
   rw [List.erase_of_not_mem hm] at this;omega
theorem zcR.flen (h:zcR n l F L) (hF:F.Nodup):F.length<=n:=zj6 n F hF fun x hx=> (h.all x).2 (.inl hx)
def HO (ph pt pa n:Nat) (E:Nat->Prop) (w:World) (l:List En) (w':World):Prop:=∃F L,HT ph pt pa n E w l F L w'/\zcR n l F L
theorem HO.pre (h:HO ph pt pa n E w1 l w') (hb:θ w w w1) (hE:∀j,E j->j < ↑w):HO ph pt pa n E w l w':=by
 obtain ⟨F,L,h1,h2⟩:=h;exact ⟨F,L,h1.pre hb hE,h2⟩
theorem HO.post (h:HO ph pt pa n E w l w1) (hb:θ w1 w1 w'):HO ph pt pa n E w l w':=by
 obtain ⟨F,L,h1,h2⟩:=h;exact ⟨F,L,h1.post hb,h2⟩
theorem HO.trans (hg:zba E w E1 w1) (ho:zD E w w1) (h:HO ph pt pa n E1 w1 l w'):HO ph pt pa n E w l w':=by
 obtain ⟨F,L,h1,h2⟩:=h;exact ⟨F,L,HT.trans hg ho h1,h2⟩
theorem zgy (h:zX w pa F L n D)  (hI:zcR n l F L) (hr:zac l) (hf:Fit l) (hl:l.length<=2000) (hn:n<=4096) {x:En} (hx:x ∈ l) (h0:0 < x.2):
 χ 118 #[zv pa,ν x.2] w fun e w'=> ∃(D':Nat->Prop) (F':List Nat) (L':List Uc),e=ρ (ι 0)/\zX w' pa F' L' n D'/\zba D w D' w'/\zD D w w'/\zcR n (zaJ l x.1) F' L':=by
 have hc:=hI.cnt x.2 h0;have hp:=zgF hx;have BO:=zl6 l x.2;have hb:=(hf x hx).2;have EP:=hI.flen h.fnodup
 by_cases h1:zan L x.2=1
 ·have XK:x.2 ∉ F:=fun e=> by have:=hI.dis _ e;omega
  refine (zfM h x.2 h0 hb h1 XK ud).mono ?_;rintro e w' ⟨D',rfl,q1,q2,q3⟩;exact ⟨D',_,_,rfl,q1,q2,q3,hI.cutLast hr hx h1 fun y=> zgH _ _ h.nodup⟩
 obtain ⟨c,Ba⟩:∃c,zan L x.2=c+2:=⟨zan L x.2 - 2,ud⟩;refine (zfN h x.2 c hb Ba ud).mono ?_;rintro e w' ⟨D',rfl,q1,q2,q3⟩;exact ⟨D',_,_,rfl,q1,q2,q3,hI.cutMore hr hx Ba fun y=> zcs _ _ _ _⟩
theorem zo2 (h:zaF w ph pt pa l F L n E) (hI:zcR n l F L) (hf:Fit l) (hl:l.length<=2000) (hn:n<=4096) (x:En) (hx:x ∈ l):
 χ 71 #[zv ph,zd1 x] w fun e w'=> e=ρ (.tuple #[])/\HO ph pt pa n E w (zaJ l x.1) w':=by
 obtain ⟨w1,Ab⟩:∃w1,w1=w.alloc (.cells #[τ (zj x.1),ν (zo x.1),υ (zp x.1),ν x.2] 113):=⟨_,rfl⟩;have Aq:θ w.heap.size w w1:=by rw [Ab];exact zr.alloc zl _
 have hX:w1.heap[w.heap.size]? =some (.cells #[τ (zj x.1),ν (zo x.1),υ (zp x.1),ν x.2] 113):=by rw [Ab];exact heap_alloc_new w _
 have AR:w1.heap.size=w.heap.size+1:=by rw [Ab];simp
 have hE:=h.lt;have h':=h.below Aq;have OL:=h'.lt;have AC:=h.rise;obtain ⟨r0,r1⟩:=h'.reads;have Aa:θ w1.heap.size w1 w1.drew:=Below.drewB zr;have h'':=h'.below Aa;obtain ⟨S,D,h1,h2,h3,h4,h5⟩:=h''.has;have HD:=zh (zo5 h2 hl x.1);obtain ⟨y0,y1,y2,y3⟩:w1.cell? ⟨w.heap.size,0,none⟩=some (τ (zj x.1))/\w1.cell? ⟨w.heap.size,1,none⟩=some (ν (zo x.1))/\w1.cell? ⟨w.heap.size,2,none⟩=some (υ (zp x.1))/\w1.cell? ⟨w.heap.size,3,none⟩=some (ν x.2):=⟨cell_of_row w1 _ 0 _ _ _ hX,cell_of_row w1 _ 1 _ _ _ hX,cell_of_row w1 _ 2 _ _ _ hX,cell_of_row w1 _ 3 _ _ _ hX⟩
 -- what the first call leaves
 have HK:=zh (fun (w5:World) S' (hT:za5 w5 S' pt (zaJ l x.1)) Q7 hg=> show ∃E1,(zaF w5 ph pt pa (zaJ l x.1) F L n E1/\HT ph pt pa n E w (zaJ l x.1) F L w5/\zba E w1.drew E1 w5/\zD E w1.drew w5/\¬E1 w.heap.size/\w.heap.size < w5.heap.size)/\w5.cell? ⟨w.heap.size,0,none⟩=some (τ (zj x.1))/\w5.cell? ⟨w.heap.size,1,none⟩=some (ν (zo x.1))/\w5.cell? ⟨w.heap.size,2,none⟩=some (υ (zp x.1))/\w5.cell? ⟨w.heap.size,3,none⟩=some (ν x.2)/\w5.cell? ⟨ph,0,none⟩=some (zv pt)/\w5.cell? ⟨ph,1,none⟩=some (zv pa) by
  obtain ⟨E1,q1,q2,q3⟩:=zaF.treed (E:=E) h1 h2 h3 h4 h5 hT Q7 hg;have e1:w5.heap[w.heap.size]? =_:=(q3.block w.heap.size (by show w.heap.size < w1.heap.size;omega) (fun e=> by have:=hE _ e;omega)).trans hX
  have rr:=q1.reads;refine ⟨E1,⟨q1,HT.pre (HT.pre ⟨E1,q1,q2,q3⟩ Aa OL) Aq hE,q2,q3,fun e=> ?_,(zg e1).1⟩,cell_of_row w5 _ 0 _ _ _ e1,cell_of_row w5 _ 1 _ _ _ e1,cell_of_row w5 _ 2 _ _ _ e1,cell_of_row w5 _ 3 _ _ _ e1,rr.1,rr.2⟩;rcases q2.new _ e with h | h
  ·have:=hE _ h;omega
  have:w1.heap.size<=w.heap.size:=h
  omega)
 have Fx:∀w',HO ph pt pa n E w1.drew (zaJ l x.1) w'->HO ph pt pa n E w (zaJ l x.1) w':=fun w' hh=> (hh.pre Aa OL).pre Aq hE;have J2:=zh Fx;have HI:=zh (zn hI (zn AC (zn hf (zn hl (zn hn hx)))));unfold zv zd1;unfold zv za2 at HD;unfold zv at r0 r1;clear h h' h'' h1 h2 h3 h4 h5 hE OL Aq Aa Fx hX AR hI AC hf;have Dm:l.length<=2000:=hl
 by_cases h0:x.2=0
 ·have z1:((x.2:Int) !=0)=false:=by rw [h0];rfl
  have HZ:=zh h0;clear h0 hl hn hx;go_enter func71,ntmps71;go_wp2_with fail;rw [<- Ab];clear Ab;generalize w.heap.size=B at *;have hS:w1.drew.cell? ⟨B,0,none⟩=some (τ (zj x.1))/\w1.drew.cell? ⟨B,1,none⟩=some (ν (zo x.1))/\w1.drew.cell? ⟨B,2,none⟩=some (υ (zp x.1))/\w1.drew.cell? ⟨ph,0,none⟩=some (π (some ⟨pt,0,none⟩)):=⟨y0,y1,y2,r0⟩
  go_region_held (fun W'=> W'.cell? ⟨B,0,none⟩=some (τ (zj x.1))/\W'.cell? ⟨B,1,none⟩=some (ν (zo x.1))/\W'.cell? ⟨B,2,none⟩=some (υ (zp x.1))/\W'.cell? ⟨ph,0,none⟩=some (π (some ⟨pt,0,none⟩))) (first | exact Ca | exact hS)
   (first | (go_at_call 117;refine HD.out.mono ?_;rintro e w5 ⟨v,S',rfl,hT,hx,hg⟩;obtain ⟨E1,Rx,s0,s1,s2,c3,s4,c4⟩:=HK.out w5 S' hT hx hg;have HR:=zh Rx;clear Rx;unfold zv at s4 c4;have Ca:=zn s0 (zn s1 (zn s2 s4));clear hT hx hg s0 s1 s2 s4))
  all_goals
   go_wp2_with fail;go_end0;refine ⟨rfl,F,L,HR.out.2.1, ?_⟩;obtain ⟨hI,AC,hf,hl,hn,hx⟩:=HI.out;exact hI.cutHole AC hx HZ.out
 have z1:((x.2:Int) !=0)=true:=by rw [bne_iff_ne];omega
 have HZ:=zh (Nat.pos_of_ne_zero h0);clear h0 hl hn hx;go_enter func71,ntmps71;go_wp2_with fail;rw [<- Ab];clear Ab;generalize w.heap.size=B at *;have hS:w1.drew.cell? ⟨B,0,none⟩=some (τ (zj x.1))/\w1.drew.cell? ⟨B,1,none⟩=some (ν (zo x.1))/\w1.drew.cell? ⟨B,2,none⟩=some (υ (zp x.1))/\w1.drew.cell? ⟨ph,0,none⟩=some (π (some ⟨pt,0,none⟩)):=⟨y0,y1,y2,r0⟩
 go_region_held (fun W'=> W'.cell? ⟨B,0,none⟩=some (τ (zj x.1))/\W'.cell? ⟨B,1,none⟩=some (ν (zo x.1))/\W'.cell? ⟨B,2,none⟩=some (υ (zp x.1))/\W'.cell? ⟨ph,0,none⟩=some (π (some ⟨pt,0,none⟩))) (first | exact Ca | exact hS)
  (first | (go_at_call 117;refine HD.out.mono ?_;rintro e w5 ⟨v,S',rfl,hT,hx,hg⟩;obtain ⟨E1,Rx,s0,s1,s2,c3,s4,c4⟩:=HK.out w5 S' hT hx hg;have HR:=zh Rx;clear Rx;unfold zv at s4 c4;have Ca:=zn s0 (zn s1 (zn s2 s4));clear hT hx hg s0 s1 s2 s4))
 all_goals
  obtain ⟨q1,q4,q2,q3,n1,UO⟩:=HR.out;have Ag:θ w5.heap.size w5 w5.drew:=Below.drewB zr;obtain ⟨S5,D5,h1,h2,h3,h4,h5⟩:=(q1.below Ag).has;obtain ⟨hI,AC,hf,hl,hn,hx⟩:=HI.out;have Qi:=zh (zgy h3 hI AC hf hl hn hx HZ.out);have AJ:=zh (fun (w6:World) D' F' L' (hA:zX w6 pa F' L' n D') hg ho (Nh:zcR n (zaJ l x.1) F' L')=> J2.out w6 (HO.trans q2 q3 (HO.pre ⟨F',L',zaF.alloced h1 h2 h3 h4 h5 hA hg ho,Nh⟩ Ag q1.lt)));have Wl:=zh (fun (w6:World) (ho:zD D5 w5.drew w6)=> show w6.cell? ⟨B,3,none⟩=some (ν x.2)/\w6.cell? ⟨ph,1,none⟩=some (π (some ⟨pa,0,none⟩)) from ⟨(World.cell?_of_block (ho.block B UO fun e=> n1 ((h4 B).2 (.inr (.inr (.inr e)))))).trans c3,(World.cell?_of_block (ho.block ph (zg h1).1 h5.2.1)).trans c4⟩);unfold zv at Qi;clear n1 UO h1 h2 h3 h4 h5 hI AC hf hl hn hx q1 q4 q2 q3 Ag HK J2 Ca hS y0 y1 y2 y3 r0 r1;go_wp2_with fail;have yj:w5.drew.cell? ⟨B,3,none⟩=some (ν x.2)/\w5.drew.cell? ⟨ph,1,none⟩=some (π (some ⟨pa,0,none⟩)):=⟨c3,c4⟩
  go_region_held (fun W'=> W'.cell? ⟨B,3,none⟩=some (ν x.2)/\W'.cell? ⟨ph,1,none⟩=some (π (some ⟨pa,0,none⟩))) (first | exact Hs | exact yj)
       (first | (go_at_call 118;refine Qi.out.mono ?_;rintro e w6 ⟨D',F',L',rfl,hA,hg,ho,Nh⟩;have Hs:=Wl.out w6 ho;have vz:=zh (AJ.out w6 D' F' L' hA hg ho Nh);clear hA hg ho Nh))
  all_goals
       go_wp2_with fail;go_end0;exact ⟨rfl,vz.out⟩
end
section
open Go.RowKit
theorem zkC (hr:zac l) (hs:∀e ∈ es,e ∈ l) (hn:es.Nodup)  {e:En} (he:es[i]? =some e):e ∈ zao l (es.take i)/\zac (zao l (es.take i))/\(∀x ∈ zao l (es.take i),x ∈ l)/\(zao l (es.take i)).length<=l.length/\zao l (es.take (i+1))=zaJ (zao l (es.take i)) e.1:=by
 have IE:(es.take i).Nodup:=hn.sublist (List.take_sublist _ _);have hf:=zct hr (fun x hx=> hs x (List.mem_of_mem_take hx)) IE;have hi:=(zi he).1;refine ⟨?_, ?_, ?_, ?_, ?_⟩
 ·rw [hf];refine List.mem_filter.2 ⟨hs e (zm he), ?_⟩;simp only [decide_not,Bool.not_eq_true',decide_eq_false_iff_not];intro hm;obtain ⟨j,hj⟩:=List.getElem?_of_mem hm;have Et:j < i:=by
   have:=(zi hj).1;rw [List.length_take] at this
   omega
  rw [List.getElem?_take_of_lt Et] at hj;have:=(List.getElem?_inj (zi hj).1 hn).1 (hj.trans he.symm)
  omega
 ·rw [hf];exact hr.sublist List.filter_sublist
 ·rw [hf];exact fun x hx=> (List.mem_filter.1 hx).1
 ·rw [hf];exact List.length_filter_le _ _
 rw [List.take_add_one,he];exact zff _ _ _
theorem zjN {x:En} (h:HO ph pt pa n E w1 (zao l (es.take i)) wr) (hr:zac l) (hs:∀e ∈ es,e ∈ l) (GK:es.Nodup) (hf:Fit l) (hl:l.length<=2000) (hn:n<=4096) (he:es[i]? =some x):
 χ 71 #[zv ph,zd1 x] (wr.alloc (.cells #[τ (zj x.1),ν (zo x.1),υ (zp x.1),ν x.2] 113)) fun e w'=> e=ρ (.tuple #[])/\HO ph pt pa n E w1 (zao l (es.take (i+1))) w':=by
 obtain ⟨q1,q2,q3,q4,q5⟩:=zkC hr hs GK he;obtain ⟨F,L,h1,hI⟩:=h.post (w':=wr.alloc (.cells #[τ (zj x.1),ν (zo x.1),υ (zp x.1),ν x.2] 113)) (zr.alloc zl _);obtain ⟨E',k1,k2,k3⟩:=h1;refine (zo2 k1 hI (fun y hy=> hf y (q3 y hy)) ud hn x q1).mono ?_;rintro e w' ⟨rfl,hO⟩;rw [q5];exact ⟨rfl,HO.trans k2 k3 hO⟩
theorem zK.far {α:Type} {enc:α->List Value}       {l:List α} (h:zK enc k t w1 B v l) (ho:zD E w1 w2) (hE:∀j,E j->j < B):zK enc k t w2 B v l:=
 zK.heap h fun g hg=> by
  have Fq:=h.lt g hg;exact ho.block g Fq.2 fun e=> by have:=hE g e;omega
theorem zn0 (h:zaF w ph pt pa l F L n E) (hI:zcR n l F L) (hf:Fit l) (hl:l.length<=2000) (hn:n<=4096) (v:Nat) (hv:v < 65536):
 χ 31 #[zv ph,↑v] w fun e w'=> e=ρ (ι ((zdE l v).length))/\HO ph pt pa n E w (zao l (zdE l v)) w':=by
 have AC:=h.rise;obtain ⟨r0,-⟩:=h.reads;have hE:=h.lt;obtain ⟨S,D,h1,h2,h3,h4,h5⟩:=h.has;have HV:=zh (zgx h2 hl v hv);have s1:IntKind.u16.wrap (v:Int)=(v:Int):=by simp [IntKind.wrap,IntKind.signed,IntKind.bits];omega
 have HH:=zh (zn h (zn hI (zn hE AC)));have Ac:(zdE l v).length<=2000:=zs (List.length_filter_le _ _) hl;have AP:∀e ∈ zdE l v,e ∈ l:=fun e he=> (List.mem_filter.1 he).1;have GK:(zdE l v).Nodup:=(zek AC).sublist List.filter_sublist;have HN:=zh (zn AP GK);unfold zv at *;generalize SR:zdE l v=es at *;have qH:=zh SR;go_in;go_wp2_with fail;refine HV.out.mono ?_;rintro e w1 ⟨r,rfl,hr,Aa⟩;have HB:=zh Aa;have HR:=zh hr;obtain ⟨a,cap,DL,Ah,Ep,-⟩:=hr.row zN;have HA:=zh DL;rw [DL];go_wp2_with fail;obtain ⟨hh,hI,hE,AC⟩:=HH.out
 go_loopw [17] (fun u17 wr=> ∃i:Nat,i<=es.length/\u17= ι i/\HO ph pt pa n E w1 (zao l (es.take i)) wr) (fun u17 _=> es.length - (intOf u17).toNat)
 case atStart=> exact ⟨0,ud,rfl,F,L,HT.refl (hh.below HB.out),hI⟩
 case round=>
  obtain ⟨i,hi,rfl,hO⟩:=hrel
  by_cases hlt:i < es.length
  ·have Bb:(i:Int) < (es.length:Int):=ud;obtain ⟨x,hx⟩:∃x,es[i]? =some x:=⟨_,ze hlt⟩;have Kd:=hO;obtain ⟨F',L',⟨E',k1,k2,k3⟩,Nh⟩:=Kd;obtain ⟨a',cap',DM,Bw,-⟩:=(HR.out.far k3 hE).row zN;obtain ⟨g,o,Gy,hcells⟩:=Bw.2 i x hx;have Iy:=HA.out.symm.trans DM;simp only [Value.slice.injEq,true_and] at Iy;obtain ⟨rfl,rfl⟩:=Iy;subst Gy;have c0:=hcells 0 _ rfl;have c1:=hcells 1 _ rfl;have c2:=hcells 2 _ rfl;have c3:=hcells 3 _ rfl;simp only [Nat.add_zero] at c0;have HC:=zh (zjN hO AC HN.out.1 HN.out.2 hf hl hn hx);unfold zv zd1 at HC;generalize es.length=m at *;go_wp2_with fail;refine HC.out.mono ?_;rintro e w5 ⟨rfl,hO⟩;have LN:=zh hO;go_wp2_with fail
   go_roundw
   case rel=> exact ⟨i+1,ud,by go_num,LN.out⟩
   case measure=> simp [intOf];omega
  obtain rfl:i=es.length:=ud;rw [zk zl] at hO;have LN:=zh (hO.pre HB.out hE);go_wp2;go_ret;exact ⟨rfl,LN.out⟩
end
section
open Go.RowKit
theorem zmn (h:za5 w S pt l) (hl:l.length<=2000) (k:Nat):
 χ 44 #[zv pt,za2 k] w fun r w'=> r=ρ (zhR (zb2 l k))/\θ w w w':=by
 rcases h.has with ⟨rfl,h2⟩ | ⟨d,p,t,h1,h2,hR,rfl⟩
 ·exact zkV h2 k
 exact zkW h1 h2 h.lt hR.lo hR.hi hR.kids h.rise (by have:=hR.depth hl;omega) k
theorem zf6 (h:zaF w ph pt pa l F L n E) (hl:l.length<=2000) (v b s:Nat) (hv:v < 65536) (hb:b < 4294967296) (hs:s < 18446744073709551616):
 χ 21 #[zv ph,ι v,ι b,υ s] w fun e w'=> e=ρ (ν (atL l v b s))/\θ w.heap.size w w':=by
 obtain ⟨w1,Ab⟩:∃w1,w1=w.alloc (.cells #[τ v,ν b,υ s] 111):=⟨_,rfl⟩;have Aq:θ w.heap.size w w1:=by rw [Ab];exact zr.alloc zl _
 have hX:w1.heap[w.heap.size]? =some (.cells #[τ v,ν b,υ s] 111):=by rw [Ab];exact heap_alloc_new w _
 have Ih:=h.hlt;have h':=h.below Aq;obtain ⟨r0,-⟩:=h'.reads;have AF:(atL l v b s:Int)=match zb2 l (za9 v b s) with
  | some e=> if zj e.1=v/\zo e.1=b then (e.2:Int) else 0
  | none=> 0:=by
  unfold atL
  cases zb2 l (za9 v b s) with
  | none=> rfl
  | some e=> by_cases h:zj e.1=v/\zo e.1=b <;> simp [h]
 have HF:=zh (fun W (hW:θ w1.heap.size w1 W)=> by
  obtain ⟨S,D,h1,h2,h3,h4,h5⟩:=(h'.below hW).has;exact zmn h2 hl (za9 v b s))
 have Cj:=zh AF;have e0:=zj2 (v:=v) hb hs;have LQ:=zh (fun (e:En) (W:World)=> zkf e.1 (za9 v b s) W);have HV:=zh (zn (zeV (v:=v) hb hs) (zdl (v:=v) hb hs));rw [e0] at HF LQ;obtain ⟨y0,y1,y2⟩:w1.cell? ⟨w.heap.size,0,none⟩=some (τ v)/\w1.cell? ⟨w.heap.size,1,none⟩=some (ν b)/\w1.cell? ⟨w.heap.size,2,none⟩=some (υ s):=⟨cell_of_row w1 _ 0 _ _ _ hX,cell_of_row w1 _ 1 _ _ _ hX,cell_of_row w1 _ 2 _ _ _ hX⟩;have s1:IntKind.u16.wrap (v:Int)=(v:Int):=by simp [IntKind.wrap,IntKind.signed,IntKind.bits];omega
 have s2:IntKind.u32.wrap (b:Int)=(b:Int):=by simp [IntKind.wrap,IntKind.signed,IntKind.bits];omega
 have AR:w1.heap.size=w.heap.size+1:=by rw [Ab];simp
 have HZ:=zh AR;unfold zv at *;clear h h' AF e0 hX AR hv hb hs;go_enter func21,ntmps21;go_wp2_with fail;rw [<- Ab];clear Ab;have VO:=zh Aq;clear Aq;generalize RI:w.heap.size=B at *;have DQ:=zh RI;clear RI;have hS:w1.drew.cell? ⟨B,0,none⟩=some (τ v)/\w1.drew.cell? ⟨B,1,none⟩=some (ν b)/\w1.drew.cell? ⟨B,2,none⟩=some (υ s)/\w1.drew.cell? ⟨ph,0,none⟩=some (π (some ⟨pt,0,none⟩)):=⟨y0,y1,y2,r0⟩;have B9:=zh (fun (w5:World) (h5:θ w1.drew.heap.size w1.drew w5)=> show w5.cell? ⟨B,0,none⟩=some (τ v)/\w5.cell? ⟨B,1,none⟩=some (ν b)/\w5.cell? ⟨B,2,none⟩=some (υ s)/\w5.cell? ⟨ph,0,none⟩=some (π (some ⟨pt,0,none⟩)) from
  ⟨(h5.cell (zb _ _ y0)).trans y0,(h5.cell (zb _ _ y1)).trans y1,(h5.cell (zb _ _ y2)).trans y2,(h5.cell (zb _ _ r0)).trans r0⟩)
 obtain ⟨wA,BR⟩:∃wA,wA=w1.alloc (.cells #[τ 0,ν 0,υ 0,ν 0] 113):=⟨_,rfl⟩;have hA:=heap_alloc_new w1 (.cells #[τ 0,ν 0,υ 0,ν 0] 113);have BI:θ w1.heap.size w1 wA:=by rw [BR];exact zr.alloc zl _
 rw [<- BR] at hA;have bw:wA.heap.size=w1.heap.size+1:=by rw [BR];simp
 have Dt:=zh (fun (w5:World) (h5:θ wA.drew.heap.size wA.drew w5)=> show (w5.cell? ⟨B,0,none⟩=some (τ v)/\w5.cell? ⟨B,1,none⟩=some (ν b)/\w5.cell? ⟨B,2,none⟩=some (υ s)/\w5.cell? ⟨ph,0,none⟩=some (π (some ⟨pt,0,none⟩)))/\w5.heap[w1.heap.size]? =some (.cells #[τ 0,ν 0,υ 0,ν 0] 113)/\θ w1.heap.size w1 w5 from by
  have RH:θ w1.heap.size w1 w5:=BI.trans ((show θ wA.heap.size wA w5 from ⟨h5.os,h5.tape,h5.output,h5.size,h5.block⟩).mono (by omega))
  exact ⟨⟨(RH.cell (zb _ _ y0)).trans y0,(RH.cell (zb _ _ y1)).trans y1,(RH.cell (zb _ _ y2)).trans y2,(RH.cell (zb _ _ r0)).trans r0⟩,(h5.block w1.heap.size (by show w1.heap.size < wA.heap.size;omega)).trans hA,RH⟩)
 have YT:ph < w1.heap.size:=zb _ _ r0;have vO:B < w1.heap.size:=zb _ _ y0;have G1:=zh (fun (w5:World) (v0 v1 v2 v3:Value) (h5:w5.cell? ⟨B,0,none⟩=some (τ v)/\w5.cell? ⟨B,1,none⟩=some (ν b)/\w5.cell? ⟨B,2,none⟩=some (υ s)/\w5.cell? ⟨ph,0,none⟩=some (π (some ⟨pt,0,none⟩)))=> show ((((w5.setCell ⟨w1.heap.size,0,none⟩ v0).setCell ⟨w1.heap.size,1,none⟩ v1).setCell ⟨w1.heap.size,2,none⟩ v2).setCell ⟨w1.heap.size,3,none⟩ v3).cell? ⟨B,0,none⟩=some (τ v)/\((((w5.setCell ⟨w1.heap.size,0,none⟩ v0).setCell ⟨w1.heap.size,1,none⟩ v1).setCell ⟨w1.heap.size,2,none⟩ v2).setCell ⟨w1.heap.size,3,none⟩ v3).cell? ⟨B,1,none⟩=some (ν b)/\((((w5.setCell ⟨w1.heap.size,0,none⟩ v0).setCell ⟨w1.heap.size,1,none⟩ v1).setCell ⟨w1.heap.size,2,none⟩ v2).setCell ⟨w1.heap.size,3,none⟩ v3).cell? ⟨B,2,none⟩=some (υ s)/\((((w5.setCell ⟨w1.heap.size,0,none⟩ v0).setCell ⟨w1.heap.size,1,none⟩ v1).setCell ⟨w1.heap.size,2,none⟩ v2).setCell ⟨w1.heap.size,3,none⟩ v3).cell? ⟨ph,0,none⟩=some (π (some ⟨pt,0,none⟩)) by
  have e:∀j,j≠w1.heap.size->((((w5.setCell ⟨w1.heap.size,0,none⟩ v0).setCell ⟨w1.heap.size,1,none⟩ v1).setCell ⟨w1.heap.size,2,none⟩ v2).setCell ⟨w1.heap.size,3,none⟩ v3).heap[j]? =w5.heap[j]? :=fun j hj=> by
   rw [heap_setCell_other _ _ _ _ hj,heap_setCell_other _ _ _ _ hj,heap_setCell_other _ _ _ _ hj,heap_setCell_other _ _ _ _ hj]
  have e1:=e B (by omega)
  have e2:=e ph (by omega)
  exact ⟨(World.cell?_of_block e1).trans h5.1,(World.cell?_of_block e1).trans h5.2.1,(World.cell?_of_block e1).trans h5.2.2.1,(World.cell?_of_block e2).trans h5.2.2.2⟩)
 clear YT vO;have JZ:=zh (HF.out w1.drew (Below.drewB zr));have IY:=zh (HF.out wA.drew (Below.drewB BI));clear HF hA bw BI
 cases EP:zb2 l (za9 v b s) with
 | none =>
   rw [EP] at JZ IY Cj;unfold zhR at JZ IY;simp only at JZ IY Cj;clear EP;rw [BR] at IY Dt
   go_region_held (fun W'=> W'.cell? ⟨B,0,none⟩=some (τ v)/\W'.cell? ⟨B,1,none⟩=some (ν b)/\W'.cell? ⟨B,2,none⟩=some (υ s)/\W'.cell? ⟨ph,0,none⟩=some (π (some ⟨pt,0,none⟩))) (first | with_reducible exact Ca | with_reducible exact hS | with_reducible exact G1.out _ _ _ _ _ Ca | go_keep)
    (first | (go_at_call 44;((with_reducible refine JZ.out.mono ?_);rintro e w5 ⟨rfl,Ag⟩;have Ca:=B9.out w5 Ag)) | (go_at_call 44;((with_reducible refine IY.out.mono ?_);rintro e w5 ⟨rfl,Ag⟩;obtain ⟨Ca,Nf,AT⟩:=Dt.out w5 Ag;obtain ⟨t0,t1,t2,t3,tf⟩:=zoJ Nf;have f0:=tf 0;have f1:=tf 1;have f2:=tf 2;have f3:=tf 3;clear tf)))
   all_goals
    have ZB:Hid (∀w6,θ w1.heap.size w1 w6->θ B w w6):=zh fun w6 h6=> VO.out.trans (h6.mono (by have:=HZ.out;omega))
    first
        | (have HG:=zh (zci AT zl (τ 0) (ν 0) (υ 0) (ν 0))
           clear B9 Dt G1 LQ JZ IY AT Ag;go_wp2_with fail;go_ret;exact ⟨by rw [Cj.out];rfl,by rw [DQ.out];exact ZB.out _ HG.out⟩)
        | (have HG:=zh ((show θ w1.heap.size w1 w5 from ⟨Ag.os,Ag.tape,Ag.output,Ag.size,Ag.block⟩).alloc Ag.size (.cells #[τ 0,ν 0,υ 0,ν 0] 113))
           clear B9 Dt G1 LQ JZ IY Ag;go_wp2_with fail;go_ret;exact ⟨by rw [Cj.out];rfl,by rw [DQ.out];exact ZB.out _ HG.out⟩)
 | some x=>
   rw [EP] at JZ IY Cj;unfold zhR zd1 at JZ IY;simp only at JZ IY Cj;clear EP;rw [BR] at IY Dt
   go_region_held (fun W'=> W'.cell? ⟨B,0,none⟩=some (τ v)/\W'.cell? ⟨B,1,none⟩=some (ν b)/\W'.cell? ⟨B,2,none⟩=some (υ s)/\W'.cell? ⟨ph,0,none⟩=some (π (some ⟨pt,0,none⟩))) (first | with_reducible exact Ca | with_reducible exact hS | with_reducible exact G1.out _ _ _ _ _ Ca | go_keep)
    (first | (go_at_call 44;((with_reducible refine JZ.out.mono ?_);rintro e w5 ⟨rfl,Ag⟩;have Ca:=B9.out w5 Ag)) | (go_at_call 44;((with_reducible refine IY.out.mono ?_);rintro e w5 ⟨rfl,Ag⟩;obtain ⟨Ca,Nf,AT⟩:=Dt.out w5 Ag;obtain ⟨t0,t1,t2,t3,tf⟩:=zoJ Nf;have f0:=tf 0;have f1:=tf 1;have f2:=tf 2;have f3:=tf 3;clear tf)))
   all_goals
    first
        | (have LC:=heap_alloc_new w5 (.cells #[τ (zj x.1),ν (zo x.1),υ (zp x.1),ν x.2] 113)
           have CM:θ w1.heap.size w1 (w5.alloc (.cells #[τ (zj x.1),ν (zo x.1),υ (zp x.1),ν x.2] 113)):=(show θ w1.heap.size w1 w5 from ⟨Ag.os,Ag.tape,Ag.output,Ag.size,Ag.block⟩).alloc Ag.size _;have u0:=zu Ca.1 (.cells #[τ (zj x.1),ν (zo x.1),υ (zp x.1),ν x.2] 113);have u1:=zu Ca.2.1 (.cells #[τ (zj x.1),ν (zo x.1),υ (zp x.1),ν x.2] 113);have u2:=zu Ca.2.2.1 (.cells #[τ (zj x.1),ν (zo x.1),υ (zp x.1),ν x.2] 113);generalize (w5.alloc (.cells #[τ (zj x.1),ν (zo x.1),υ (zp x.1),ν x.2] 113))=w6 at *;generalize w5.heap.size=xb at *)
        | (have LC:=set4 Nf (τ (zj x.1)) (ν (zo x.1)) (υ (zp x.1)) (ν x.2)
           obtain ⟨u0,u1,u2,-⟩:=G1.out w5 (τ (zj x.1)) (ν (zo x.1)) (υ (zp x.1)) (ν x.2) Ca;have CM:=zci AT zl (τ (zj x.1)) (ν (zo x.1)) (υ (zp x.1)) (ν x.2);generalize ((((w5.setCell ⟨w1.heap.size,0,none⟩ (τ (zj x.1))).setCell ⟨w1.heap.size,1,none⟩ (ν (zo x.1))).setCell ⟨w1.heap.size,2,none⟩ (υ (zp x.1))).setCell ⟨w1.heap.size,3,none⟩ (ν x.2))=w6 at *;clear t0 t1 t2 t3 f0 f1 f2 f3 Nf AT;generalize GY:w1.heap.size=xb at *;rw [<- GY] at CM HZ;clear GY)
   all_goals
    obtain ⟨p0,p1,p2,p3⟩:w6.cell? ⟨xb,0,none⟩=some (τ (zj x.1))/\w6.cell? ⟨xb,1,none⟩=some (ν (zo x.1))/\w6.cell? ⟨xb,2,none⟩=some (υ (zp x.1))/\w6.cell? ⟨xb,3,none⟩=some (ν x.2):=⟨cell_of_row w6 xb 0 _ _ _ LC,cell_of_row w6 xb 1 _ _ _ LC,cell_of_row w6 xb 2 _ _ _ LC,cell_of_row w6 xb 3 _ _ _ LC⟩;have Qs:=zh (LQ.out x w6);have DW:=zh CM;have UK:=zh LC;rw [HV.out.1,HV.out.2] at Qs;unfold za2 at Qs;clear Ag Ca hS LC CM y0 y1 y2 r0 B9 Dt G1 LQ JZ IY
    by_cases hc:zj x.1=v/\zo x.1=b
    ·have Ay:(zj x.1==v && zo x.1==b)=true:=by rw [hc.1,hc.2];simp
     rw [Ay] at Qs;have HC:=zh hc;clear hc Ay;go_wp2_with fail;refine Qs.out.mono ?_;rintro e w7 ⟨rfl,B1⟩;have p7:=(B1.cell (zb _ _ p3)).trans p3;have Qg:=zh B1;clear B1 p0 p1 p2 p3 u0 u1 u2;go_wp2_with fail;go_ret;refine ⟨by rw [Cj.out,if_pos HC.out];rfl,by rw [DQ.out];exact VO.out.trans ((DW.out.trans (Qg.out.mono DW.out.size)).mono (by have:=HZ.out;omega))⟩
    have Ay:(zj x.1==v && zo x.1==b)=false:=by
     rw [Bool.and_eq_false_iff]
     by_cases h1:zj x.1=v
     ·exact .inr (by rw [beq_eq_false_iff_ne];exact fun h2=> hc ⟨h1,h2⟩)
     exact .inl (by rw [beq_eq_false_iff_ne];exact h1)
    rw [Ay] at Qs;have HC:=zh hc;clear hc Ay;go_wp2_with fail;refine Qs.out.mono ?_;rintro e w7 ⟨rfl,B1⟩;have Qg:=zh B1;clear B1 p0 p1 p2 p3 u0 u1 u2;go_wp2_with fail;go_ret;refine ⟨by rw [Cj.out,if_neg HC.out];rfl,by rw [DQ.out];exact VO.out.trans ((DW.out.trans (Qg.out.mono DW.out.size)).mono (by have:=HZ.out;omega))⟩
end
end Go.Proofs.YtaoceecfjlkmdaaGreat
