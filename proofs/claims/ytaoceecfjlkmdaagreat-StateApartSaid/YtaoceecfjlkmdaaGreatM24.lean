/- Lemmas of the walks, merged and pressed by press.py. Conditions: those of each theorem. -/
import Derived.Test.YtaoceecfjlkmdaaGreatM21
import Derived.Test.YtaoceecfjlkmdaaGreatM19
import Derived.Laws.Externs
set_option maxRecDepth 100000
set_option maxHeartbeats 64000000
set_option linter.all false
namespace Go.Proofs.YtaoceecfjlkmdaaGreat
open Tryz
variable {h:Ch} {B C c j k n s:Nat} {Q:Nat→Prop} {a:Option Addr} {t:TypeId} {o0 o1 o2 o3 o4 o5 o6 o7 o8:Value} {W w:World}
section
open Go.RowKit
def zf0:Option Nat->Int
 | none=> -1
 | some i=> (i:Int)
theorem zdk {α:Type} {p:α->Bool}:∀{l:List α} {i:Nat} {x:α},l[i]? =some x->p x=true->(∀y ∈ l.take i,p y=false)->l.findIdx? p=some i
 | [],_,_,h,_,_=> by simp at h
 | y::l,0,x,h,hp,_=> by
   simp at h;subst h;rw [List.findIdx?_cons,hp];rfl
 | y::l,i+1,x,h,hp,hn=> by
   simp at h;rw [List.findIdx?_cons,hn y uh,if_neg uh,zdk h hp (fun z hz=> hn z ubg)]
   rfl
theorem zdM {α:Type} {p:α->Bool} {l:List α} (h:∀y ∈ l,p y=false):l.findIdx? p=none:=List.findIdx?_eq_none_iff.2 h
theorem zdA {α β:Type} (f:α->β) (p:β->Bool) (l:List α):(l.map f).findIdx? p=l.findIdx? fun x=> p (f x):=by rw [List.findIdx?_map];rfl
theorem zbi {α:Type} {p:α->Bool}:∀{l:List α} {i:Nat},l.findIdx? p=some i->l.find? p=l[i]? /\i < l.length
 | [],_,h=> by simp at h
 | y::l,i,h=> by
   rw [List.findIdx?_cons] at h;rw [List.find?_cons]
   split at h
   ·rename_i hp
    cases h
    rw [hp];simp
   rename_i hp
   have hp:p y=false:=by simpa using hp
   rw [hp];obtain ⟨j,hj,rfl⟩:=Option.map_eq_some_iff.1 h;obtain ⟨h1,h2⟩:=zbi hj;simp [h1,h2]
theorem zbt {α:Type} {p:α->Bool} {l:List α} (h:l.findIdx? p=none):l.find? p=none:=by
 rw [List.findIdx?_eq_none_iff] at h;rw [List.find?_eq_none];intro x hx;rw [h x hx];simp
theorem zph (x:Vh) (pb:Nat) (id:Int) (w:World) (hc:w pb=some ↑id):
 χ 184 #[.agg #[↑x.v.id,υ x.v.born,σ x.a x.v.sizes.length x.c],π (some ↑pb)] w fun e w'=> e=ρ (.bool (decide ((x.v.id:Int)=id)))/\θ w w w':=by
 have hb:θ w w (w.alloc (.cells #[↑x.v.id,υ x.v.born,σ x.a x.v.sizes.length x.c] 86)):=zr.alloc zl _;have HB:=zh hb;have Jc:(w.alloc (.cells #[↑x.v.id,υ x.v.born,σ x.a x.v.sizes.length x.c] 86)) pb=some ↑id:=zu hc _;clear hb hc
 by_cases h:(x.v.id:Int)=id
 ·have z:((x.v.id:Int)==id)=true:=by rw [h];simp
  have HF:=zh (decide_eq_true h);clear h;go_enter func184,ntmps184;go_wp2_with fail;go_ret;exact ⟨by rw [HF.out];rfl,HB.out⟩
 have z:((x.v.id:Int)==id)=false:=by rw [beq_eq_false_iff_ne];exact h
 have HF:=zh (decide_eq_false h);clear h;go_enter func184,ntmps184;go_wp2_with fail;go_ret;exact ⟨by rw [HF.out];rfl,HB.out⟩
theorem zk3 {l:List Vh} (h:zM zeK 3 w a n l) (hn:n<=1000000) (pb:Nat) (id:Int) (hp:w pb=some ↑id):
 χ 183 #[σ a n c, .func (.func 184) #[] #[π (some ↑pb)]] w fun e w'=> e=ρ (ι (zf0 (l.findIdx? fun x=> decide ((x.v.id:Int)=id))))/\θ w w w':=by
 have hl:=h.1;have H:=zh h;have HL:=zh hl;have HP:=zh hp;go_in;go_wp2_with fail
 go_loopw [8] (fun u wr=> ∃i:Nat,i<=n/\u= ι i/\(∀y ∈ l.take i,decide ((y.v.id:Int)=id)=false)/\θ w w wr) (fun u _=> n - (intOf u).toNat)
 case atStart=> exact ⟨0,ud,rfl,uh,Below.refl _ _⟩
 case round=>
  obtain ⟨i,hi,rfl,hR,hb⟩:=hrel;have HR:=zh hR;have HB:=zh hb
  by_cases hlt:i < n
  ·have Bb:(i:Int) < (n:Int):=ud;have AD:(0:Int)<=(i:Int):=ud;obtain ⟨x,hx⟩:∃x,l[i]? =some x:=⟨_,ze uj⟩;obtain ⟨b,o,rfl,hc⟩:=(H.out.below hb zl).2 i x hx;have c0:=hc 0 _ rfl;have c1:=hc 1 _ rfl;have c2:=hc 2 _ rfl;simp only [Nat.add_zero] at c0;have Fb:wr pb=some ↑id:=(hb.cell (zb _ _ HP.out)).trans HP.out;have HC:=zh (zph x pb id wr Fb);have HX:=zh hx
   cases hd:decide ((x.v.id:Int)=id) with
   | true=>
     rw [hd] at HC;have HF:=zh (zdk HX.out hd HR.out);go_wp2_with fail;refine HC.out.mono ?_;rintro e w5 ⟨rfl,Ag⟩;have A8:=zh (HB.out.trans (Ag.mono HB.out.size));go_wp2;go_ret;exact ⟨by rw [HF.out];rfl,A8.out⟩
   | false=>
     rw [hd] at HC;have HF:Hid (∀y ∈ l.take (i+1),decide ((y.v.id:Int)=id)=false):=zh fun y hy=> by
      rw [List.take_add_one,HX.out] at hy;rcases List.mem_append.1 hy with hy | hy
      ·exact HR.out y hy
      simp at hy;subst hy;exact hd
     go_wp2_with fail;refine HC.out.mono ?_;rintro e w5 ⟨rfl,Ag⟩;have A8:=zh (HB.out.trans (Ag.mono HB.out.size));go_wp2_with fail
     go_roundw
     case rel=> exact ⟨i+1,ud,by go_num,HF.out,A8.out⟩
     case measure=> simp [intOf];omega
  obtain rfl:n=i:=ud;have HF:=zh (zdM (l:=l) (p:=fun x=> decide ((x.v.id:Int)=id)) (fun y hy=> HR.out y uB))
  go_wp2;go_ret;exact ⟨by rw [HF.out];rfl,HB.out⟩
theorem zgq {c:Ct} (hc:zaV Q w h c) (hn:c.vols.length<=1000000) (id:Int):
 χ 133 #[h.val c,↑id] w fun e w'=> e=ρ (ι (zf0 (c.vols.findIdx? fun x=> decide ((x.id:Int)=id))))/\θ w w w':=by
 have hb:θ w w ((w.alloc (.cells (h.cells c) 54)).alloc (.cells #[↑id] 3)):=(zr.alloc zl _).alloc uh _;have hp:((w.alloc (.cells (h.cells c) 54)).alloc (.cells #[↑id] 3)) ⟨↑w+1,0,none⟩=some ↑id:=by
  have:=heap_alloc_new (w.alloc (.cells (h.cells c) 54)) (.cells #[↑id] 3);rw [World.alloc_size] at this;exact cell_of_row _ _ 0 _ _ _ this
 have Ac:h.vl.length=c.vols.length:=by rw [<- hc.volsE,List.length_map]
 have Ah:=(hc.vols.row.row.below hb zl);rw [Ac] at Ah;have HI:=zh (zk3 (c:=h.vc) Ah hn (↑w+1) id hp);have HB:=zh hb;have HE:=zh (show (h.vl.findIdx? fun x=> decide ((x.v.id:Int)=id))=c.vols.findIdx? fun x=> decide ((x.id:Int)=id) by rw [<- hc.volsE,zdA])
 unfold Ch.val;unfold Ch.cells at *;go_in;go_wp2_with fail;refine HI.out.mono ?_;rintro e w5 ⟨rfl,Ag⟩;have A8:=zh (HB.out.trans (Ag.mono HB.out.size));go_wp2;go_ret;exact ⟨by rw [<- HE.out];rfl,A8.out⟩
theorem zpg (x:Gh) (pb:Nat) (id:Int) (w:World) (hc:w pb=some ↑id):
 χ 137 #[.agg #[↑x.v.id,σ x.a x.v.ms.length x.c],π (some ↑pb)] w fun e w'=> e=ρ (.bool (decide ((x.v.id:Int)=id)))/\θ w w w':=by
 have hb:θ w w (w.alloc (.cells #[↑x.v.id,σ x.a x.v.ms.length x.c] 180)):=zr.alloc zl _;have HB:=zh hb;have Jc:(w.alloc (.cells #[↑x.v.id,σ x.a x.v.ms.length x.c] 180)) pb=some ↑id:=zu hc _;clear hb hc
 by_cases h:(x.v.id:Int)=id
 ·have z:((x.v.id:Int)==id)=true:=by rw [h];simp
  have HF:=zh (decide_eq_true h);clear h;go_enter func137,ntmps137;go_wp2_with fail;go_ret;exact ⟨by rw [HF.out];rfl,HB.out⟩
 have z:((x.v.id:Int)==id)=false:=by rw [beq_eq_false_iff_ne];exact h
 have HF:=zh (decide_eq_false h);clear h;go_enter func137,ntmps137;go_wp2_with fail;go_ret;exact ⟨by rw [HF.out];rfl,HB.out⟩
theorem zk2 {l:List Gh} (h:zM zgQ 2 w a n l) (hn:n<=1000000) (pb:Nat) (id:Int) (hp:w pb=some ↑id):
 χ 136 #[σ a n c, .func (.func 137) #[] #[π (some ↑pb)]] w fun e w'=> e=ρ (ι (zf0 (l.findIdx? fun x=> decide ((x.v.id:Int)=id))))/\θ w w w':=by
 have hl:=h.1;have H:=zh h;have HL:=zh hl;have HP:=zh hp;go_in;go_wp2_with fail
 go_loopw [8] (fun u wr=> ∃i:Nat,i<=n/\u= ι i/\(∀y ∈ l.take i,decide ((y.v.id:Int)=id)=false)/\θ w w wr) (fun u _=> n - (intOf u).toNat)
 case atStart=> exact ⟨0,ud,rfl,uh,Below.refl _ _⟩
 case round=>
  obtain ⟨i,hi,rfl,hR,hb⟩:=hrel;have HR:=zh hR;have HB:=zh hb
  by_cases hlt:i < n
  ·have Bb:(i:Int) < (n:Int):=ud;have AD:(0:Int)<=(i:Int):=ud;obtain ⟨x,hx⟩:∃x,l[i]? =some x:=⟨_,ze uj⟩;obtain ⟨b,o,rfl,hc⟩:=(H.out.below hb zl).2 i x hx;have c0:=hc 0 _ rfl;have c1:=hc 1 _ rfl;simp only [Nat.add_zero] at c0;have Fb:wr pb=some ↑id:=(hb.cell (zb _ _ HP.out)).trans HP.out;have HC:=zh (zpg x pb id wr Fb);have HX:=zh hx
   cases hd:decide ((x.v.id:Int)=id) with
   | true=>
     rw [hd] at HC;have HF:=zh (zdk HX.out hd HR.out);go_wp2_with fail;refine HC.out.mono ?_;rintro e w5 ⟨rfl,Ag⟩;have A8:=zh (HB.out.trans (Ag.mono HB.out.size));go_wp2;go_ret;exact ⟨by rw [HF.out];rfl,A8.out⟩
   | false=>
     rw [hd] at HC;have HF:Hid (∀y ∈ l.take (i+1),decide ((y.v.id:Int)=id)=false):=zh fun y hy=> by
      rw [List.take_add_one,HX.out] at hy;rcases List.mem_append.1 hy with hy | hy
      ·exact HR.out y hy
      simp at hy;subst hy;exact hd
     go_wp2_with fail;refine HC.out.mono ?_;rintro e w5 ⟨rfl,Ag⟩;have A8:=zh (HB.out.trans (Ag.mono HB.out.size));go_wp2_with fail
     go_roundw
     case rel=> exact ⟨i+1,ud,by go_num,HF.out,A8.out⟩
     case measure=> simp [intOf];omega
  obtain rfl:n=i:=ud;have HF:=zh (zdM (l:=l) (p:=fun x=> decide ((x.v.id:Int)=id)) (fun y hy=> HR.out y uB))
  go_wp2;go_ret;exact ⟨by rw [HF.out];rfl,HB.out⟩
theorem zgp {c:Ct} (hc:zaV Q w h c) (hn:c.groups.length<=1000000) (id:Int):
 χ 95 #[h.val c,↑id] w fun e w'=> e=ρ (ι (zf0 (c.groups.findIdx? fun x=> decide ((x.id:Int)=id))))/\θ w w w':=by
 have hb:θ w w ((w.alloc (.cells (h.cells c) 54)).alloc (.cells #[↑id] 3)):=(zr.alloc zl _).alloc uh _;have hp:((w.alloc (.cells (h.cells c) 54)).alloc (.cells #[↑id] 3)) ⟨↑w+1,0,none⟩=some ↑id:=by
  have:=heap_alloc_new (w.alloc (.cells (h.cells c) 54)) (.cells #[↑id] 3);rw [World.alloc_size] at this;exact cell_of_row _ _ 0 _ _ _ this
 have Ac:h.gl.length=c.groups.length:=by rw [<- hc.groupsE,List.length_map]
 have Ah:=(hc.groups.row.row.below hb zl);rw [Ac] at Ah;have HI:=zh (zk2 (c:=h.gc) Ah hn (↑w+1) id hp);have HB:=zh hb;have HE:=zh (show (h.gl.findIdx? fun x=> decide ((x.v.id:Int)=id))=c.groups.findIdx? fun x=> decide ((x.id:Int)=id) by rw [<- hc.groupsE,zdA])
 unfold Ch.val;unfold Ch.cells at *;go_in;go_wp2_with fail;refine HI.out.mono ?_;rintro e w5 ⟨rfl,Ag⟩;have A8:=zh (HB.out.trans (Ag.mono HB.out.size));go_wp2;go_ret;exact ⟨by rw [<- HE.out];rfl,A8.out⟩
theorem zpf (x:Bh) (pb:Nat) (id:Int) (w:World) (hc:w pb=some ↑id):
 χ 139 #[.agg #[↑x.v.id,υ x.v.seq,σ x.a x.v.ms.length x.c],π (some ↑pb)] w fun e w'=> e=ρ (.bool (decide ((x.v.id:Int)=id)))/\θ w w w':=by
 have hb:θ w w (w.alloc (.cells #[↑x.v.id,υ x.v.seq,σ x.a x.v.ms.length x.c] 132)):=zr.alloc zl _;have HB:=zh hb;have Jc:(w.alloc (.cells #[↑x.v.id,υ x.v.seq,σ x.a x.v.ms.length x.c] 132)) pb=some ↑id:=zu hc _;clear hb hc
 by_cases h:(x.v.id:Int)=id
 ·have z:((x.v.id:Int)==id)=true:=by rw [h];simp
  have HF:=zh (decide_eq_true h);clear h;go_enter func139,ntmps139;go_wp2_with fail;go_ret;exact ⟨by rw [HF.out];rfl,HB.out⟩
 have z:((x.v.id:Int)==id)=false:=by rw [beq_eq_false_iff_ne];exact h
 have HF:=zh (decide_eq_false h);clear h;go_enter func139,ntmps139;go_wp2_with fail;go_ret;exact ⟨by rw [HF.out];rfl,HB.out⟩
theorem zk1 {l:List Bh} (h:zM zgP 3 w a n l) (hn:n<=1000000) (pb:Nat) (id:Int) (hp:w pb=some ↑id):
 χ 138 #[σ a n c, .func (.func 139) #[] #[π (some ↑pb)]] w fun e w'=> e=ρ (ι (zf0 (l.findIdx? fun x=> decide ((x.v.id:Int)=id))))/\θ w w w':=by
 have hl:=h.1;have H:=zh h;have HL:=zh hl;have HP:=zh hp;go_in;go_wp2_with fail
 go_loopw [8] (fun u wr=> ∃i:Nat,i<=n/\u= ι i/\(∀y ∈ l.take i,decide ((y.v.id:Int)=id)=false)/\θ w w wr) (fun u _=> n - (intOf u).toNat)
 case atStart=> exact ⟨0,ud,rfl,uh,Below.refl _ _⟩
 case round=>
  obtain ⟨i,hi,rfl,hR,hb⟩:=hrel;have HR:=zh hR;have HB:=zh hb
  by_cases hlt:i < n
  ·have Bb:(i:Int) < (n:Int):=ud;have AD:(0:Int)<=(i:Int):=ud;obtain ⟨x,hx⟩:∃x,l[i]? =some x:=⟨_,ze uj⟩;obtain ⟨b,o,rfl,hc⟩:=(H.out.below hb zl).2 i x hx;have c0:=hc 0 _ rfl;have c1:=hc 1 _ rfl;have c2:=hc 2 _ rfl;simp only [Nat.add_zero] at c0;have Fb:wr pb=some ↑id:=(hb.cell (zb _ _ HP.out)).trans HP.out;have HC:=zh (zpf x pb id wr Fb);have HX:=zh hx
   cases hd:decide ((x.v.id:Int)=id) with
   | true=>
     rw [hd] at HC;have HF:=zh (zdk HX.out hd HR.out);go_wp2_with fail;refine HC.out.mono ?_;rintro e w5 ⟨rfl,Ag⟩;have A8:=zh (HB.out.trans (Ag.mono HB.out.size));go_wp2;go_ret;exact ⟨by rw [HF.out];rfl,A8.out⟩
   | false=>
     rw [hd] at HC;have HF:Hid (∀y ∈ l.take (i+1),decide ((y.v.id:Int)=id)=false):=zh fun y hy=> by
      rw [List.take_add_one,HX.out] at hy;rcases List.mem_append.1 hy with hy | hy
      ·exact HR.out y hy
      simp at hy;subst hy;exact hd
     go_wp2_with fail;refine HC.out.mono ?_;rintro e w5 ⟨rfl,Ag⟩;have A8:=zh (HB.out.trans (Ag.mono HB.out.size));go_wp2_with fail
     go_roundw
     case rel=> exact ⟨i+1,ud,by go_num,HF.out,A8.out⟩
     case measure=> simp [intOf];omega
  obtain rfl:n=i:=ud;have HF:=zh (zdM (l:=l) (p:=fun x=> decide ((x.v.id:Int)=id)) (fun y hy=> HR.out y uB))
  go_wp2;go_ret;exact ⟨by rw [HF.out];rfl,HB.out⟩
theorem zgo {c:Ct} (hc:zaV Q w h c) (hn:c.books.length<=1000000) (id:Int):
 χ 98 #[h.val c,↑id] w fun e w'=> e=ρ (ι (zf0 (c.books.findIdx? fun x=> decide ((x.id:Int)=id))))/\θ w w w':=by
 have hb:θ w w ((w.alloc (.cells (h.cells c) 54)).alloc (.cells #[↑id] 3)):=(zr.alloc zl _).alloc uh _;have hp:((w.alloc (.cells (h.cells c) 54)).alloc (.cells #[↑id] 3)) ⟨↑w+1,0,none⟩=some ↑id:=by
  have:=heap_alloc_new (w.alloc (.cells (h.cells c) 54)) (.cells #[↑id] 3);rw [World.alloc_size] at this;exact cell_of_row _ _ 0 _ _ _ this
 have Ac:h.bl.length=c.books.length:=by rw [<- hc.booksE,List.length_map]
 have Ah:=(hc.books.row.row.below hb zl);rw [Ac] at Ah;have HI:=zh (zk1 (c:=h.bc) Ah hn (↑w+1) id hp);have HB:=zh hb;have HE:=zh (show (h.bl.findIdx? fun x=> decide ((x.v.id:Int)=id))=c.books.findIdx? fun x=> decide ((x.id:Int)=id) by rw [<- hc.booksE,zdA])
 unfold Ch.val;unfold Ch.cells at *;go_in;go_wp2_with fail;refine HI.out.mono ?_;rintro e w5 ⟨rfl,Ag⟩;have A8:=zh (HB.out.trans (Ag.mono HB.out.size));go_wp2;go_ret;exact ⟨by rw [<- HE.out];rfl,A8.out⟩
end
section
open Go.RowKit
theorem zlT (h:W.heap[B]? =some (.cells #[o0,o1,o2] t (0,0))) (v0 v1 v2:Value):(((W.setCell ↑B v0).setCell (B 1 ()) v1).setCell (B 2 ()) v2).heap[B]? =some (.cells #[v0,v1,v2] t (0,0)):=by
 have e0:(W.setCell ↑B v0).heap[B]? =some (.cells #[v0,o1,o2] t (0,0)):=heap_setCell_same _ B 0 _ _ v0 h;have e1:((W.setCell ↑B v0).setCell (B 1 ()) v1).heap[B]? =some (.cells #[v0,v1,o2] t (0,0)):=heap_setCell_same _ B 1 _ _ v1 e0;have e2:(((W.setCell ↑B v0).setCell (B 1 ()) v1).setCell (B 2 ()) v2).heap[B]? =some (.cells #[v0,v1,v2] t (0,0)):=heap_setCell_same _ B 2 _ _ v2 e1;exact e2
theorem zaq (h:θ C w W) (hB:C<=B) (v0 v1 v2:Value):θ C w (((W.setCell ↑B v0).setCell (B 1 ()) v1).setCell (B 2 ()) v2):=((h.setCell (p:=↑B) hB v0).setCell (p:=(B 1 ())) hB v1).setCell (p:=(B 2 ())) hB v2
theorem zbb (h:W.heap[B]? =some (.cells #[o0,o1,o2] t (0,0))):W B=some o0/\W (B 1 ())=some o1/\W (B 2 ())=some o2/\∀j,W.frozen? (B j ())=false:=⟨cell_of_row W _ 0 _ _ _ h,cell_of_row W _ 1 _ _ _ h,cell_of_row W _ 2 _ _ _ h,fun j=> by simp [World.frozen?,h]⟩
theorem zeE (h:W.heap[B]? =some (.cells #[o0,o1,o2,o3,o4,o5,o6,o7,o8] t (0,0))) (v0 v1 v2 v3 v4 v5 v6 v7 v8:Value):(((((((((W.setCell ↑B v0).setCell (B 1 ()) v1).setCell (B 2 ()) v2).setCell (B 3 ()) v3).setCell (B 4 ()) v4).setCell (B 5 ()) v5).setCell (B 6 ()) v6).setCell (B 7 ()) v7).setCell (B 8 ()) v8).heap[B]? =some (.cells #[v0,v1,v2,v3,v4,v5,v6,v7,v8] t (0,0)):=by
 have q:=heap_setCell_same _ B 8 _ _ v8 (heap_setCell_same _ B 7 _ _ v7 (heap_setCell_same _ B 6 _ _ v6 (heap_setCell_same _ B 5 _ _ v5 (heap_setCell_same _ B 4 _ _ v4 (heap_setCell_same _ B 3 _ _ v3 (heap_setCell_same _ B 2 _ _ v2 (heap_setCell_same _ B 1 _ _ v1 (heap_setCell_same _ B 0 _ _ v0 h))))))));simp only [zSs] at q;exact q
theorem zG (h:θ C w W) (hB:C<=B) (v0 v1 v2 v3 v4 v5 v6 v7 v8:Value):θ C w (((((((((W.setCell ↑B v0).setCell (B 1 ()) v1).setCell (B 2 ()) v2).setCell (B 3 ()) v3).setCell (B 4 ()) v4).setCell (B 5 ()) v5).setCell (B 6 ()) v6).setCell (B 7 ()) v7).setCell (B 8 ()) v8):=((((((((h.setCell (p:=↑B) hB v0).setCell (p:=(B 1 ())) hB v1).setCell (p:=(B 2 ())) hB v2).setCell (p:=(B 3 ())) hB v3).setCell (p:=(B 4 ())) hB v4).setCell (p:=(B 5 ())) hB v5).setCell (p:=(B 6 ())) hB v6).setCell (p:=(B 7 ())) hB v7).setCell (p:=(B 8 ())) hB v8
theorem zJ (h:W.heap[B]? =some (.cells #[o0,o1,o2,o3,o4,o5,o6,o7,o8] t (0,0))):W B=some o0/\W (B 1 ())=some o1/\W (B 2 ())=some o2/\W (B 3 ())=some o3/\W (B 4 ())=some o4/\W (B 5 ())=some o5/\W (B 6 ())=some o6/\W (B 7 ())=some o7/\W (B 8 ())=some o8/\∀j,W.frozen? (B j ())=false:=⟨cell_of_row W _ 0 _ _ _ h,cell_of_row W _ 1 _ _ _ h,cell_of_row W _ 2 _ _ _ h,cell_of_row W _ 3 _ _ _ h,cell_of_row W _ 4 _ _ _ h,cell_of_row W _ 5 _ _ _ h,cell_of_row W _ 6 _ _ _ h,cell_of_row W _ 7 _ _ _ h,cell_of_row W _ 8 _ _ _ h,fun j=> by simp [World.frozen?,h]⟩
theorem zmy {l:List Int} (h:zM zcm 1 w a n l) (hn:n<=1000000) (x:Int):
 χ 120 #[σ a n c,↑x] w fun e w'=> (∃z:Int,e=ρ ↑z/\(0<=z↔x ∈ l))/\w'=w:=by
 have hl:=h.1;have H:=zh h;have HL:=zh hl;clear h hl;go_in;go_wp2_with fail
 go_loop [8] (fun u=> ∃i:Nat,i<=n/\u= ι i/\x ∉ l.take i) (fun u=> n - (intOf u).toNat)
 case atStart=> exact ⟨0,ud,rfl,uh⟩
 case round=>
  obtain ⟨i,hi,rfl,hR⟩:=hrel;have HR:=zh hR;clear hR
  by_cases hlt:i < n
  ·have Bb:(i:Int) < (n:Int):=ud;obtain ⟨y,hy⟩:∃y,l[i]? =some y:=⟨_,ze uj⟩;obtain ⟨b,o,rfl,hc⟩:=H.out.2 i y hy;have c0:=hc 0 _ rfl;simp only [Nat.mul_one,Nat.add_zero] at c0;have HY:=zh hy;clear hy hc
   by_cases B8:x=y
   ·have z:(x==y)=true:=by rw [B8];simp
    have HF:=zh (show ((0:Int)<=(i:Int))↔x ∈ l from ⟨fun _=> zm (B8 ▸ HY.out),fun _=> by omega⟩)
    clear B8;go_wp2;go_ret;exact ⟨⟨_,rfl,HF.out⟩,rfl⟩
   have z:(x==y)=false:=by rw [beq_eq_false_iff_ne];exact B8
   have HF:=zh (show x ∉ l.take (i+1) by
    rw [List.take_add_one,HY.out];simp only [Option.toList_some,List.mem_append,List.mem_singleton,not_or];exact ⟨HR.out,B8⟩)
   clear B8;go_wp2_with fail
   go_round
   case rel=> exact ⟨i+1,ud,by go_num,HF.out⟩
   case measure=> simp [intOf];omega
  obtain rfl:n=i:=ud;have HF:=zh (show ((0:Int)<=(-1:Int))↔x ∈ l by
       have:=HR.out;rw [zk uj] at this;exact ⟨fun h=> by omega,fun h=> absurd h this⟩)
  go_wp2;go_ret;exact ⟨⟨_,rfl,HF.out⟩,rfl⟩
theorem zer {l:List Int} (h:zM zcm 1 w a n l) (hn:n<=1000000) (x:Int):
 χ 74 #[σ a n c,↑x] w fun e w'=> e=ρ (.bool (decide (x ∈ l)))/\w'=w:=by
 have H:=zh (zmy (c:=c) h hn x);clear h;go_in;go_wp2_with fail;refine H.out.mono ?_;rintro e w' ⟨⟨z,rfl,hz⟩,rfl⟩;have HZ:=zh hz;clear hz;go_wp2;go_ret;exact ⟨by rw [<- decide_eq_decide.2 HZ.out];rfl,rfl⟩
def znH (h:Option Vh):Value:=match h with
 | none=> .agg #[ι 0,υ 0,σ none 0 0]
 | some x=> .agg #[↑x.v.id,υ x.v.born,σ x.a x.v.sizes.length x.c]
theorem zev (tmps:Array Value) (B:Nat) (e v0 v1 v2:Value) (W:World) (h:tmps[4]? =some (π (some ↑B))) (h5:tmps[5]? =some e) (q0:W B=some v0) (q1:W (B 1 ())=some v1) (q2:W (B 2 ())=some v2):
 (results Tryz.f38 tmps).run prog W= .ok (.tuple #[.agg #[v0,v1,v2],e]) W:=by
 simp [results,Tryz.results38,go_sem,h,h5,q0,q1,q2]
theorem zc2 {c:Ct} (hc:zaV Q w h c) (hn:c.vols.length<=1000000) (id:Int):
 χ 38 #[h.val c,↑id] w fun e w'=> (∃x,x=h.vl.find? (fun x=> decide ((x.v.id:Int)=id))/\e=ρ (.tuple #[znH x, .bool x.isSome]))/\θ w w w':=by
 have Ac:h.vl.length=c.vols.length:=by rw [<- hc.volsE,List.length_map]
 have Ah:=hc.vols.row.row;rw [Ac] at Ah;obtain ⟨w1,Ab⟩:∃w1,w1=(w.alloc (.cells (h.cells c) 54)).alloc (.cells #[ι 0,υ 0,σ none 0 0] 86):=⟨_,rfl⟩;have Aa:θ w w w1:=by rw [Ab];exact (zr.alloc zl _).alloc uh _
 have Ai:↑w1=w.heap.size+2:=by rw [Ab,World.alloc_size,World.alloc_size]
 have hX:w1.heap[w.heap.size]? =some (.cells (h.cells c) 54 (0,0)):=by rw [Ab,Below.heap_alloc _ _ _ uh];exact heap_alloc_new w _
 have hY:w1.heap[w.heap.size+1]? =some (.cells #[ι 0,υ 0,σ none 0 0] 86):=by
  have:=heap_alloc_new (w.alloc (.cells (h.cells c) 54)) (.cells #[ι 0,υ 0,σ none 0 0] 86);rw [World.alloc_size] at this;rw [Ab];exact this
 unfold Ch.cells at hX;have x4:=cell_of_row w1 _ 4 _ _ _ hX;have x4':w1 ⟨↑w,4,none⟩=some (σ h.va c.vols.length h.vc):=x4;have H:=zh (Ah.below Aa zl);have Ak:=zh (zn Aa (zn Ai hY));have HL:=zh Ac;unfold Ch.val;unfold Ch.cells at *;clear hc Ah Aa Ai hX hY x4 Ac;generalize E9:c.vols.length=n at *;clear E9;generalize h.va=va at *;generalize h.vl=vl at *;go_in;go_wp2_with fail;rw [<- Ab];clear Ab;go_wp2_with fail;clear x4'
 go_loopw [11] (fun u wr=> ∃i:Nat,i<=n/\u= ι i/\(∀y ∈ vl.take i,decide ((y.v.id:Int)=id)=false)/\θ w1 w1 wr) (fun u _=> n - (intOf u).toNat)
 case atStart=> exact ⟨0,ud,rfl,uh,Below.refl _ _⟩
 case round=>
  obtain ⟨i,hi,rfl,hR,hb⟩:=hrel;have HR:=zh hR;have HB:=zh hb;have Ef:=(hb.block (↑w+1) ui).trans Ak.out.2.2;obtain ⟨t0,t1,t2,tf⟩:=zbb Ef;have f0:=tf 0;have f1:=tf 1;have f2:=tf 2;have HV:=zh Ef;have ME:w.heap.size+1 < wr.heap.size:=(zg Ef).1;clear hR tf Ef
  by_cases hlt:i < n
  ·have Bb:(i:Int) < (n:Int):=ud;have AD:(0:Int)<=(i:Int):=ud;obtain ⟨x,hx⟩:∃x,vl[i]? =some x:=⟨_,ze uj⟩;obtain ⟨b,o,rfl,hc⟩:=(H.out.below hb zl).2 i x hx;have c0:=hc 0 _ rfl;have c1:=hc 1 _ rfl;have c2:=hc 2 _ rfl;simp only [Nat.add_zero] at c0;have HX:=zh hx;clear hx hc hb
   by_cases hd:(x.v.id:Int)=id
   ·have z:((x.v.id:Int)==id)=true:=by rw [hd];simp
    have HF:=zh ((zbi (zdk HX.out (decide_eq_true hd) HR.out)).1.trans HX.out);clear hd;go_wp2_with fail;have hk:=zlT HV.out ↑x.v.id (υ x.v.born) (σ x.a x.v.sizes.length x.c);have hs:=zbb ((Below.heap_alloc _ (.cells #[↑x.v.id,υ x.v.born,σ x.a x.v.sizes.length x.c] 86) _ (zg hk).1).trans hk);have Au:=zaq (Ak.out.1.trans (HB.out.mono ui)) (show ↑w<=w.heap.size+1 by omega) ↑x.v.id (υ x.v.born) (σ x.a x.v.sizes.length x.c)
    refine bodyPost_ret (zev _ (↑w+1) _ _ _ _ _ rfl rfl hs.1 hs.2.1 hs.2.2.1) rfl ?_;exact ⟨⟨some x,HF.out.symm,rfl⟩,Au.alloc Au.size _⟩
   have z:((x.v.id:Int)==id)=false:=by rw [beq_eq_false_iff_ne];exact hd
   have HF:Hid (∀y ∈ vl.take (i+1),decide ((y.v.id:Int)=id)=false):=zh fun y hy=> by
    rw [List.take_add_one,HX.out] at hy;rcases List.mem_append.1 hy with hy | hy
    ·exact HR.out y hy
    simp at hy;subst hy;exact decide_eq_false hd
   clear hd;go_wp2_with fail
   go_roundw
   case rel=> exact ⟨i+1,ud,by go_num,HF.out,HB.out.alloc HB.out.size _⟩
   case measure=> simp [intOf];omega
  obtain rfl:n=i:=ud;have HF:=zh (zbt (zdM (l:=vl) (p:=fun x=> decide ((x.v.id:Int)=id)) (fun y hy=> HR.out y uB)));clear hb;go_wp2_with fail;have hs:=zbb (zlT HV.out (ι 0) (υ 0) (σ none 0 0));refine bodyPost_ret (zev _ (↑w+1) _ _ _ _ _ rfl rfl hs.1 hs.2.1 hs.2.2.1) rfl ?_;exact ⟨⟨none,HF.out.symm,rfl⟩,zaq (Ak.out.1.trans (HB.out.mono ui)) ud _ _ _⟩
def zp4 (H:W.heap[B]? =some (.cells #[o0,o1,o2,o3,o4,o5,o6,o7,o8] t (0,0))) (h:Ch) (c:Ct):=zeE H ↑c.nv ↑c.ng ↑c.nb (υ c.fl) (σ h.va c.vols.length h.vc) (σ h.ga c.groups.length h.gc) (σ h.ba c.books.length h.bc) (σ h.ka c.kept.length h.kc) (σ h.ta c.times.length h.tc)
def zp2 (H:θ C w W) (hB:C<=B) (h:Ch) (c:Ct):=zG H hB ↑c.nv ↑c.ng ↑c.nb (υ c.fl) (σ h.va c.vols.length h.vc) (σ h.ga c.groups.length h.gc) (σ h.ba c.books.length h.bc) (σ h.ka c.kept.length h.kc) (σ h.ta c.times.length h.tc)
end
section
open Go.RowKit
theorem zno {l:List Mk}  {x:Mk} (hx:l[j]? =some x) (BO:x.1<=s) (Lv:∀m ∈ l.drop (j+1),s < m.1):zdD l s=some x.2:=by
 have hj:=(zi hx).1;have e:l=l.take j++x::l.drop (j+1):=by
  have h1:=(zi hx).2;rw [<- h1,<- List.drop_eq_getElem_cons hj,List.take_append_drop]
 unfold zdD;rw [e,List.filter_append,List.filter_cons,if_pos (decide_eq_true BO),show (l.drop (j+1)).filter (fun m=> decide (m.1<=s))= [] from List.filter_eq_nil_iff.2 fun m hm=> by have:=Lv m hm;simp;omega]
 simp
theorem zpC {l:List Mk}  (Lv:∀m ∈ l,s < m.1):zdD l s=none:=by
 unfold zdD;rw [List.filter_eq_nil_iff.2 fun m hm=> by have:=Lv m hm;simp;omega]
 rfl
theorem zhi {l:List Mk}  {x:Mk} (hl:l.length=j+1) (hx:l[j]? =some x):zas l=x.2/\l.getLast? =some x:=by
 have:l.getLast? =some x:=by rw [List.getLast?_eq_getElem?,hl];exact hx
 unfold zas;rw [this];exact ⟨rfl,rfl⟩
theorem zii {l:List Mk} (h:zM zbZ 2 w a n l) (hn:n<=1000000) (hf:∀m ∈ l,m.2<=32):
 χ 85 #[σ a n c] w fun e w'=> e=ρ (ι (zas l:Nat))/\w'=w:=by
 have hl:=h.1
 cases n with
 | zero=>
   have Dm:l= []:=List.eq_nil_of_length_eq_zero hl;subst Dm;go_in;go_wp2;go_ret;exact ⟨rfl,rfl⟩
 | succ k=>
   obtain ⟨x,hx⟩:∃x,l[k]? =some x:=⟨_,ze ud⟩;obtain ⟨g,o,rfl,hc⟩:=h.2 k x hx;have c1:=hc 1 _ rfl;have bi:=hf x (zm hx);have HS:=zh (zhi hl hx).1;have z1:IntKind.i64.wrap (k:Int)=(k:Int):=zw _ ud;have z2:IntKind.i64.wrap (x.2:Int)=(x.2:Int):=zw _ ud;have z3:((k:Int)+1==0)=false:=by rw [beq_eq_false_iff_ne];omega
   have z4:(k:Int) < (k:Int)+1:=ud;have z5:(0:Int)<=(k:Int):=ud
   go_in;go_wp2;go_ret;exact ⟨by rw [HS.out];rfl,rfl⟩
theorem zow {l:List Mk} (h:zM zbZ 2 w a n l) (hn:n<=1000000) (hf:∀m ∈ l,m.2<=32) (s:Nat):
 χ 39 #[σ a n c,υ s] w fun e w'=> e=ρ (.tuple #[ι ((zdD l s).getD 0:Nat), .bool (zdD l s).isSome])/\w'=w:=by
 have hl:=h.1;have H:=zh h;have HL:=zh hl;have HF:=zh hf;have z0:IntKind.i64.wrap ((n:Int) - 1)=(n:Int) - 1:=zw _ ud
 go_in;go_wp2_with fail
 go_loop [6] (fun u=> ∃j:Nat,j<=n/\u= ι ((j:Int) - 1)/\∀m ∈ l.drop j,s < m.1) (fun u=> (intOf u+1).toNat)
 case atStart=> exact ⟨n,ud,rfl,fun m hm=> by rw [List.drop_eq_nil_of_le uj] at hm;cases hm⟩
 case round=>
  obtain ⟨j,hj,rfl,Lv⟩:=hrel;have HN:=zh Lv
  cases j with
  | zero=>
    have HS:=zh (zpC (l:=l) (s:=s) (fun m hm=> HN.out m (by rw [List.drop_zero];exact hm)))
    go_wp2;go_ret2;exact ⟨by rw [HS.out];rfl,rfl⟩
  | succ k=>
    obtain ⟨x,hx⟩:∃x,l[k]? =some x:=⟨_,ze uj⟩;obtain ⟨g,o,rfl,hc⟩:=H.out.2 k x hx;have c0:=hc 0 _ rfl;have c1:=hc 1 _ rfl;simp only [Nat.add_zero] at c0;have z5:(0:Int)<=(k:Int):=ud;have z6:(k:Int) < (n:Int):=ud;have z7:(((k+1:Nat):Int) - 1)=(k:Int):=ud;have bi:=HF.out x (zm hx);have z2:IntKind.i64.wrap (x.2:Int)=(x.2:Int):=zw _ ud;have z8:IntKind.i64.wrap ((k:Int) - 1)=(k:Int) - 1:=zw _ ud;rw [z7];have HX:=zh hx
    by_cases Zz:x.1<=s
    ·have z9:(x.1:Int)<=(s:Int):=ud;have HS:=zh (zno HX.out Zz HN.out);go_wp2;go_ret2;exact ⟨by rw [HS.out];rfl,rfl⟩
    have z9:¬(x.1:Int)<=(s:Int):=ud;have HQ:Hid (∀m ∈ l.drop k,s < m.1):=zh fun m hm=> by
     have hk:=(zi HX.out).1;rw [List.drop_eq_getElem_cons hk,(zi HX.out).2] at hm;rcases List.mem_cons.1 hm with rfl | hm
     ·omega
     exact HN.out m hm
    go_wp2_with fail
    go_round
    case rel=> exact ⟨k,ud,rfl,HQ.out⟩
    case measure=> simp [intOf]
end
section
open Go.RowKit
theorem zhC {c:Ct} (hc:zaV Q w h c) (v:Int):c.find v=(h.vl.find? fun x=> decide ((x.v.id:Int)=v)).map (·.v):=by
 unfold Ct.find;rw [<- hc.volsE,List.find?_map]
 rfl
theorem zaV.vol {c:Ct} (hc:zaV Q w h c) {p:Vh->Bool} {x:Vh} (hx:h.vl.find? p=some x):zaM Q zbZ 2 w x.a x.v.sizes/\x.v ∈ c.vols:=by
 have hm:=List.mem_of_find?_eq_some hx;exact ⟨hc.vols.sub x hm,by rw [<- hc.volsE];exact List.mem_map.2 ⟨x,hm,rfl⟩⟩
def zo6 (o:Option Vl):Int:=if o.isSome then 0 else 40
theorem zme:zo6 none=40:=rfl
theorem zmf (x:Vl):zo6 (some x)=0:=rfl
theorem zaf {c:Ct}   (hx:w.heap[B]? =some (.cells (h.cells c) t (0,0))):
 w B=some ↑c.nv/\w (B 1 ())=some ↑c.ng/\w (B 2 ())=some ↑c.nb/\w (B 3 ())=some (υ c.fl)/\w (B 4 ())=some (σ h.va c.vols.length h.vc)/\w (B 5 ())=some (σ h.ga c.groups.length h.gc)/\w (B 6 ())=some (σ h.ba c.books.length h.bc)/\w (B 7 ())=some (σ h.ka c.kept.length h.kc)/\w (B 8 ())=some (σ h.ta c.times.length h.tc)/\∀j,w.frozen? (B j ())=false:=by
 unfold Ch.cells at hx;exact zJ hx
theorem zcI {c:Ct}  (hc:zaV Q w h c) (hi:CtI c s k) (v:Int):
 χ 46 #[h.val c,↑v] w fun e w'=> e=ρ (.tuple #[ι (c.size v:Nat),ι (zo6 (c.find v))])/\θ w w w':=by
 have Aa:θ w w (w.alloc (.cells (h.cells c) 54)):=zr.alloc zl _;have HF:=zh (zc2 (hc.below Aa) (by have:=hi.vlen;omega) v)
 have HC:=zh (zn hc hi);have Ak:=zh Aa;have Io:=zh (zhC hc v);unfold Ch.val at *;unfold Ch.cells at *;go_in;go_wp2_with fail;refine HF.out.mono ?_;rintro e w2 ⟨⟨x,hx,rfl⟩,Ae⟩;have Ap:=zh (Ak.out.trans (Ae.mono Ak.out.size));have hx:=hx.symm
 cases x with
 | none=>
   have HS:Hid (c.size v=0/\zo6 (c.find v)=40):=zh ual
   dsimp only [znH,Option.isSome]
   go_wp2;go_ret2;exact ⟨by rw [HS.out.1,HS.out.2];rfl,Ap.out.alloc Ap.out.size _⟩
 | some x=>
   have hv:=HC.out.1.vol hx;have Ea:=(HC.out.2.vols x.v hv.2).sizes;have HS:Hid (c.size v=zas x.v.sizes/\zo6 (c.find v)=0):=zh ual;have Am:=Ap.out.alloc Ap.out.size (.cells #[↑x.v.id,υ x.v.born,σ x.a x.v.sizes.length x.c] 86);have HN:=zh (zii (c:=x.c) (hv.1.row.below Am zl) (by have:=Ea.len;omega) (fun m hm=> (Ea.fit m hm).2.2))
   have AI:=zh Am
   dsimp only [znH,Option.isSome]
   go_wp2_with fail;refine HN.out.mono ?_;rintro e w5 ⟨rfl,rfl⟩;go_wp2;go_ret2;exact ⟨by rw [HS.out.1,HS.out.2];rfl,AI.out⟩
theorem zpd {c:Ct} (hc:zaV Q w h c) (hn:c.vols.length<=1000):
 χ 32 #[h.val c] w fun e w'=> ∃v,e=ρ v/\zK zcm 1 3 w' ↑w v (c.vols.map fun x=> (x.id:Int))/\θ w w w':=by
 have Aa:θ w w (w.alloc (.cells (h.cells c) 54)):=zr.alloc zl _;have Ac:h.vl.length=c.vols.length:=by rw [<- hc.volsE,List.length_map]
 have Ah:=hc.vols.row.row;rw [Ac] at Ah;have H:=zh Ah;have Ak:=zh Aa;have HL:=zh Ac;have HE:=zh (show (h.vl.map fun x=> (x.v.id:Int))=c.vols.map fun x=> (x.id:Int) by rw [<- hc.volsE,List.map_map];rfl)
 have hX:=heap_alloc_new w (.cells (h.cells c) 54);obtain ⟨-,-,-,-,x4,-⟩:=zaf hX;unfold Ch.val;unfold Ch.cells at *;generalize E9:c.vols.length=n at *;generalize h.va=va at *;generalize h.vl=vl at *;go_in;go_wp2_with fail;generalize w.alloc (.cells _ 54)=w1 at *
 go_loopw [3,9] (fun u3 u wr=> ∃i:Nat,i<=n/\u= ι i/\zK zcm 1 3 wr ↑w u3 ((vl.take i).map fun x=> (x.v.id:Int))/\θ w w wr) (fun _ u _=> n - (intOf u).toNat)
 case atStart=> exact ⟨0,ud,rfl,World.ownsRow_nil _ _ _ _,Ak.out⟩
 case round=>
  obtain ⟨i,hi,rfl,ho,hb⟩:=hrel;have HB:=zh hb
  by_cases hlt:i < n
  ·have Bb:(i:Int) < (n:Int):=ud;have AD:(0:Int)<=(i:Int):=ud;obtain ⟨x,hx⟩:∃x,vl[i]? =some x:=⟨_,ze uj⟩;obtain ⟨b,o,rfl,hc⟩:=(H.out.below hb zl).2 i x hx;have c0:=hc 0 _ rfl;have c1:=hc 1 _ rfl;have c2:=hc 2 _ rfl;simp only [Nat.add_zero] at c0;have Bo:=ho.alloc (.cells #[↑x.v.id,υ x.v.born,σ x.a x.v.sizes.length x.c] 86);have Aa:=hb.alloc hb.size (.cells #[↑x.v.id,υ x.v.born,σ x.a x.v.sizes.length x.c] 86);have EF:((vl.take i).map fun x=> (x.v.id:Int)).length<=100000000:=by rw [List.length_map,List.length_take];omega
   obtain ⟨v',w6,hr,Bv,hg⟩:=zK.pushG zT uf zjQ Tryz.underlying38 zoK rfl uf Bo (x.v.id:Int) EF Aa.size;have AT:=Below.own Aa Bo hg zl Aa.size;have HF:=zh (zn Bv AT);have HX:=zh hx;rw [World.alloc_size] at hr;unfold zcm at hr
   go_wp2_with (at_builtin;refine za rfl _ _ _ rfl hr ?_)
   go_roundw
   case rel=>
        refine ⟨i+1,ud,by go_num, ?_,HF.out.2⟩
        rw [List.take_add_one,HX.out,List.map_append];exact HF.out.1
   case measure=> simp [intOf];omega
  obtain rfl:n=i:=ud;rw [zk uj,HE.out] at ho;have HF:=zh ho;go_wp2;go_ret;exact ⟨_,rfl,HF.out,HB.out⟩
theorem zie (x y:Nat) (w:World):
 (callFunc 86 #[υ x,υ y,υ 0]).run prog w= .ok (.value (.tuple #[υ (((x+y) % 18446744073709551616:Nat):Int),υ (((x+y) / 18446744073709551616:Nat):Int)])) w:=by
 rw [run_callFunc_extern func86 ue ue ue (e:=add64Entry) ue,run_add64 x y 0 ud ud ud ud];simp only [Result.andThen]
 congr 5 <;> omega
theorem zlk (a:Nat) (h:a+1 < 18446744073709551616) (w:World):
 χ 51 #[υ a,υ 1] w fun e w'=> e=ρ (.tuple #[υ ((a+1:Nat)),ι 0])/\w'=w:=by
 have hr:=zie a 1 w;rw [Nat.mod_eq_of_lt h,Nat.div_eq_of_lt h] at hr;have Ha:(callFunc 86 #[υ a,υ 1,υ 0]).run prog w= .ok (.value (.tuple #[υ ((a+1:Nat)),υ 0])) w:=hr;generalize ((a+1:Nat):Int)=z at *;go_in;go_wp2;go_ret2;exact ⟨rfl,rfl⟩
theorem zlj (w:World):
 χ 51 #[υ 18446744073709551615,υ 1] w fun e w'=> e=ρ (.tuple #[υ 0,ι 50])/\w'=w:=by
 have Ha:(callFunc 86 #[υ 18446744073709551615,υ 1,υ 0]).run prog w= .ok (.value (.tuple #[υ 0,υ 1])) w:=zie 18446744073709551615 1 w;go_in;go_wp2;go_ret2;exact ⟨rfl,rfl⟩
def zmR (s:Nat):Value:=if s=18446744073709551615 then .tuple #[υ 0,ι 50] else .tuple #[υ ((s+1:Nat)),ι 0]
theorem zj5 (s:Nat) (hs:s < 18446744073709551616) (w:World):
 χ 25 #[υ s] w fun e w'=> e=ρ (zmR s)/\w'=w:=by
 by_cases h:s=18446744073709551615
 ·have HN:=zh (show zmR s= .tuple #[υ 0,ι 50] from if_pos h);subst h;have HA:=zh (zlj w);go_in;go_wp2_with fail;refine HA.out.mono ?_;rintro e w' ⟨rfl,rfl⟩;go_wp2;go_ret2;exact ⟨by rw [HN.out];rfl,rfl⟩
 have HN:=zh (show zmR s= .tuple #[υ ((s+1:Nat)),ι 0] from if_neg h);have HA:=zh (zlk s ud w)
 go_in;go_wp2_with fail;refine HA.out.mono ?_;rintro e w' ⟨rfl,rfl⟩;generalize ((s+1:Nat):Int)=z at *;go_wp2;go_ret2;exact ⟨by rw [HN.out];rfl,rfl⟩
end
end Go.Proofs.YtaoceecfjlkmdaaGreat
