/- Lemmas of the walks, merged and pressed by press.py. Conditions: those of each theorem. -/
import Derived.Test.YtaoceecfjlkmdaaGreatM23
import Derived.Test.YtaoceecfjlkmdaaGreatM28
import Derived.Test.YtaoceecfjlkmdaaGreatM17
import Derived.Laws.CopyOwn
import Derived.Test.YtaoceecfjlkmdaaGreatM18
import Derived.Test.YtaoceecfjlkmdaaGreatM20
import Derived.Deep.Cut
set_option maxRecDepth 100000
set_option maxHeartbeats 64000000
set_option linter.all false
namespace Go.Proofs.YtaoceecfjlkmdaaGreat
open Tryz
variable {cf:Cfg} {h h' hc:Ch} {b dn g k mn n nb p s sq x:Nat} {Q:Nat→Prop} {a da ma:Option Addr} {o:PO} {st:PS} {t:TypeId} {pv:Value} {w w' w0:World}
section
open Go.RowKit
theorem zoC (w:World):∃w',(Instr.makeSlice 33 (ι 64) (ι 64)).run prog w= .ok (σ (some ↑w) 64 64) w'/\w'.heap[w.heap.size]? =some (.cells (zc (List.replicate 64 0)).toArray 5 (0,0))/\θ w w w':=by
 obtain ⟨i0,hi,AG,Ai,Ax⟩:=info_parts zi2;have hr:=run_make (P:=prog) w 33 5 i0 (ω 0) Tryz.underlying33 hi AG .i64 .i64 64 64 ud ud uQ ud;rw [Ai] at hr;have e:madeCells (Value.int .u8 0).cells (Int.toNat 64 * 1)=(zc (List.replicate 64 0)).toArray:=ue;rw [e] at hr;exact ⟨_,hr,heap_alloc_new w _,zr.alloc zl _⟩
theorem zjK {l:List UInt8}  (h:w.heap[g]? =some (.cells (zc l).toArray t (0,0))):Bs w (some ↑g) l.length l:=by
 refine Is.mk' uh fun i hi=> ?_;rw [Nat.zero_add,cell_of_row w g i _ _ _ h,zdn l i hi];simp [zc,hi]
theorem zjV {b:Option Addr}  (cap:Nat) {l:List UInt8} (h:Bs w b n l):
 χ 41 #[σ b n cap] w fun e w'=> ∃g,e=ρ (σ (some ⟨g,0,()⟩) 64 64)/\w'.heap[g]? =some (.cells (zc (zdy l)).toArray 5 (0,0))/\↑w<=g/\θ w w w':=by
 obtain ⟨w1,QU,hx,Aa⟩:=zoC w;have hl:=h.length;have h1:=h.below Aa zl;have H1:=zh (zn hx (zn Aa (zn h1 hl)));have Gg:splice (zc (List.replicate 64 0)) 0 (zc (l.take 64))=zc (zdy l):=by
  unfold splice zdy zc;rw [List.take_zero,List.nil_append,Nat.zero_add,List.length_map,<- List.map_drop,<- List.map_append,List.drop_replicate,List.length_take]
  congr 3
  omega
 have Rz:=zh Gg;have Ac:(zc (l.take 64)).length=Nat.min n 64:=by
  show (zc (l.take 64)).length=min n 64
  simp [zc];omega
 have BP:0 < (zc (l.take 64)).length->(some ↑w:Option Addr)=some ↑w/\∃ad,b=some ad/\∀j v,(zc (l.take 64))[j]? =some v->w1 (ad.add j)=some v:=by
  intro hp;refine ⟨rfl, ?_⟩;obtain ⟨b',o',c,rfl,-,-,-⟩:=Bs.cell h1 0 (by simp [zc] at hp;omega)
  refine ⟨_,rfl,fun j v hj=> ?_⟩;have FT:j < (zc (l.take 64)).length:=(zi hj).1;simp [zc] at FT;obtain ⟨b2,o2,c2,e2,Bd,Cg,-⟩:=Bs.cell h1 j ud
  cases e2
  rw [zdt,Cg];simp only [zc,List.getElem?_map] at hj;rw [List.getElem?_take_of_lt ud,Bd] at hj
  simpa using hj
 have FR:0+(zc (l.take 64)).length<=(zc (List.replicate 64 0)).length:=by simp [zc];omega
 have BA:∀v ∈ zc (l.take 64),v.oneCell'=true:=by
  intro v hv;unfold zc at hv;obtain ⟨c,-,rfl⟩:=List.mem_map.1 hv
  rfl
 have HP:=zh (zn Ac (zn BP (zn FR BA)));go_in
 go_wp2_with (with_reducible refine wpList_copy_splice rfl (.tmp 5) (.tmp 6) 33 33 rfl 5 Tryz.underlying33 ue (some ↑w) b 64 64 n cap rfl rfl ↑w 0 (zc (List.replicate 64 0)) 5 H1.out.1 (zc (l.take 64)) HP.out.1 HP.out.2.1 HP.out.2.2.1 HP.out.2.2.2 ↑w w H1.out.2.1 zl (fun w2 Dw Ae=> ?_))
 have Dw:=Dw.out;rw [Rz.out] at Dw;have H2:=zh (zn Dw Ae);go_wp2;go_ret;exact ⟨_,rfl,H2.out.1,zl,H2.out.2⟩
theorem zms:zdy []=List.replicate 64 0:=by unfold zdy;simp
theorem zhA {a:StA}     (H:StW w p h a cf st nb k Q) {v t:Nat}:
 χ 20 #[π (some ↑p),ν (atL st.l v b t)] w fun e w'=> ∃r,e=ρ (.tuple #[r,ι 0])/\w'.ownsRow ↑w 5 1 r (zbX st.bl (atL st.l v b t)).length (zc (zbX st.bl (atL st.l v b t)))/\(zbX st.bl (atL st.l v b t)).length=64/\θ w w w':=by
 have CQ:=zeO st.l v b t;generalize atL st.l v b t=at0 at *
 by_cases h0:at0=0
 ·subst h0;have HF:=zh (zjV (w:=w) (b:=none) 0 (l:= []) (Bs.none' none));go_in;go_wp2_with fail;refine HF.out.mono ?_;rintro e w1 ⟨g,rfl,hx,hg,hb⟩;have HX:=zh (zn hx (zn hg hb));go_wp2;go_ret2;rw [show zbX st.bl 0=List.replicate 64 0 from if_pos rfl,<- zms];refine ⟨σ (some ↑g) 64 64,rfl,⟨by simp [zc], .inr ⟨g,64,_,by rw [zaK],HX.out.2.1,HX.out.1,by rw [zaK];exact zl,ur,by simp [zc,zaK], ?_⟩⟩,zaK _,HX.out.2.2⟩
  rw [zaK];exact zk (by simp [zc,zaK])
 have i0:((at0:Int)==0)=false:=by rw [beq_eq_false_iff_ne];omega
 obtain ⟨e0,Ms,Ny⟩:∃e ∈ st.l,e.2=at0:=CQ.resolve_left h0;have hk:=(H.inv.keys e0 Ms).2.2.2;have Fm:zbX st.bl at0=st.bl at0:=if_neg h0;obtain ⟨F,L,E,s,lv,xs,ys,D,hM⟩:=H.mem;obtain ⟨QZ,E9⟩:=hM.pages e0 Ms ud;rw [Ny] at QZ E9;obtain ⟨-,-,-,-,-,-,-,-,-,-,x10,x11,-,-,-,-,-,-,-,-,-⟩:=H.reads;have HR:=zh (zg4 hM.disk (a:=at0) (lg:=a.lg) (by have:=H.nbl;omega) (by have:=hM.room;omega) (by have:=hM.room;omega) (by have:=hM.many;have:=H.kl;omega))
 rw [QZ] at HR;rw [Fm];have HL:=zh E9;go_in;go_wp2_with fail;refine HR.out.mono ?_;rintro e w1 ⟨⟨g,c,rfl,hc,hg,Au⟩,hb⟩;have HP:=zh (zll (w:=w1) c 6 ud (l:=st.bl at0) uj Au hc);have HB:=zh hb;go_wp2_with fail;refine HP.out.mono ?_;rintro e w2 ⟨r,rfl,ho,Ae⟩;have HO:=zh (zn ho Ae);go_wp2;go_ret2;exact ⟨r,rfl,zc0 HO.out.1 HB.out.size,HL.out,HB.out.trans (HO.out.2.mono HB.out.size)⟩
def zaD (c:Ct) (v b m:Int):Nat × Nat:=match c.find v with
 | none=> (0,40)
 | some x=> if b < 0\/(zas x.sizes:Int) - b < m then (0,41) else (zas x.sizes,0)
theorem zen {a:StA}     (H:StW w p h a cf st nb k Q) (v b m:Int) (hb:b<=9223372036854775807):
 χ 22 #[π (some ↑p),↑v,↑b,↑m] w fun e w'=> e=ρ (.tuple #[ι ((zaD st.c v b m).1:Nat),ι ((zaD st.c v b m).2:Nat)])/\θ w w w':=by
 have HV:=zh (zcI H.cat H.inv.ct v);obtain ⟨x0,x1,x2,x3,x4,x5,x6,x7,x8,-,-,-,-,-,-,-,-,-,-,-,-⟩:=H.reads;unfold Ch.val Ch.cells at HV
 cases hf:st.c.find v with
 | none=>
   have hw:zaD st.c v b m=(0,40):=by unfold zaD;rw [hf]
   have HW:=zh hw;rw [hf,zme] at HV;go_in;go_wp2_with fail;refine HV.out.mono ?_;rintro e w1 ⟨rfl,Aa⟩;have HB:=zh Aa;go_wp2;go_ret2;exact ⟨by rw [HW.out];rfl,HB.out⟩
 | some x=>
   have AR:=zbR (H.inv.ct.vols x (za0 hf).1).sizes;have Fo:st.c.size v=zas x.sizes:=by unfold Ct.size;rw [hf]
   rw [hf,zmf,Fo] at HV;have hw:zaD st.c v b m=if b < 0\/(zas x.sizes:Int) - b < m then (0,41) else (zas x.sizes,0):=by unfold zaD;rw [hf]
   have HW:=zh hw;generalize zas x.sizes=z at *
   by_cases Aq:b < 0
   ·go_in;go_wp2_with fail;refine HV.out.mono ?_;rintro e w1 ⟨rfl,Aa⟩;have HB:=zh Aa;go_wp2;go_ret2;exact ⟨by rw [HW.out,if_pos (.inl Aq)];rfl,HB.out⟩
   have i1:IntKind.i64.wrap ((z:Int) - b)=(z:Int) - b:=zw _ ud
   by_cases hm:(z:Int) - b < m
   ·go_in;go_wp2_with fail;refine HV.out.mono ?_;rintro e w1 ⟨rfl,Aa⟩;have HB:=zh Aa;go_wp2;go_ret2;exact ⟨by rw [HW.out,if_pos (.inr hm)];rfl,HB.out⟩
   go_in;go_wp2_with fail;refine HV.out.mono ?_;rintro e w1 ⟨rfl,Aa⟩;have HB:=zh Aa;go_wp2;go_ret2;exact ⟨by rw [HW.out,if_neg ud];rfl,HB.out⟩
def zfL (w:World) (r:Nat × List UInt8) (e:Ending) (w':World):Prop:=((r.1≠0/\e=ρ (.tuple #[σ none 0 0,↑r.1]))\/(r.1=0/\r.2.length=64/\∃v,e=ρ (.tuple #[v,ι 0])/\w'.ownsRow ↑w 5 1 v r.2.length (zc r.2)))/\θ w w w'
theorem zgs {a:StA}     (H:StW w p h a cf st nb k Q) (v b:Int) (t:Nat) (ht:t < 18446744073709551616):
 χ 8 #[π (some ↑p),↑v,↑b,υ t] w (zfL w (zbo st v b t)):=by
 have HS:=zh (zbz H.cat H.inv.ct v t st.seq);have RB:=zh (zbz (H.below zr.drew).cat H.inv.ct v t st.seq);unfold Ch.val Ch.cells at RB;obtain ⟨x0,x1,x2,x3,x4,x5,x6,x7,x8,-,-,-,-,-,-,-,-,-,x18,-,-⟩:=H.reads;have EZ:Hid (∀W:World,θ w w W->W p=some ↑st.c.nv/\W (p 1 ())=some ↑st.c.ng/\W (p 2 ())=some ↑st.c.nb/\W (p 3 ())=some (υ st.c.fl)/\W (p 4 ())=some (σ h.va st.c.vols.length h.vc)/\W (p 5 ())=some (σ h.ga st.c.groups.length h.gc)/\W (p 6 ())=some (σ h.ba st.c.books.length h.bc)/\W (p 7 ())=some (σ h.ka st.c.kept.length h.kc)/\W (p 8 ())=some (σ h.ta st.c.times.length h.tc)/\W (p 18 ())=some (υ st.seq)):=zh (fun W hW=> by
  obtain ⟨x0,x1,x2,x3,x4,x5,x6,x7,x8,-,-,-,-,-,-,-,-,-,x18,-,-⟩:=(H.below hW).reads;exact ⟨x0,x1,x2,x3,x4,x5,x6,x7,x8,x18⟩)
 have Dn:zbo st v b t=if (st.c.sizeAt v t st.seq).1≠0 then ((st.c.sizeAt v t st.seq).1, []) else if b < 0\/((st.c.sizeAt v t st.seq).2:Int)<=b then (41, []) else (0,zbX st.bl (atL st.l v.toNat b.toNat t)):=rfl;have FR:=fun n (hs:st.c.sizeAt v t st.seq=(0,n))=> Ct.sizeAt_fit H.inv.ct hs;have HH:=zh H;have La:(st.c.sizeAt v t st.seq).1=0->0<=v/\v<=65535:=fun hz=> by
  unfold Ct.sizeAt at hz
  cases hf:st.c.find v with
  | none=> rw [hf] at hz;simp at hz
  | some x=>
    have h1:=za0 hf;have h2:=(H.inv.ct.vols x h1.1).id;have h3:=H.inv.ct.nv
    omega
 clear H HS;obtain ⟨⟨ec,z⟩,ST⟩:∃r,r=st.c.sizeAt v t st.seq:=⟨_,rfl⟩;rw [<- ST] at Dn RB FR La;simp only at Dn RB FR La;have HE:=zh Dn;clear Dn ST;go_in;go_wp2_with fail
 go_cut [10,11] from 13 to 25 (fun u10 u11 wx=> u10= ι (z:Nat)/\u11= ι (ec:Nat)/\θ w w wx)
 case first=>
  go_region_held3 (fun W'=> W' p=some ↑st.c.nv/\W' (p 1 ())=some ↑st.c.ng/\W' (p 2 ())=some ↑st.c.nb/\W' (p 3 ())=some (υ st.c.fl)/\W' (p 4 ())=some (σ h.va st.c.vols.length h.vc)/\W' (p 5 ())=some (σ h.ga st.c.groups.length h.gc)/\W' (p 6 ())=some (σ h.ba st.c.books.length h.bc)/\W' (p 7 ())=some (σ h.ka st.c.kept.length h.kc)/\W' (p 8 ())=some (σ h.ta st.c.times.length h.tc)/\W' (p 18 ())=some (υ st.seq)) (first | with_reducible exact Bg | go_keep)
   ((go_at_call 19;((with_reducible refine RB.out.mono ?_);rintro e w5 ⟨rfl,Ag⟩;have Ag:θ w w w5:=zr.drew.trans Ag;have Bg:=EZ.out w5 Ag)))
  all_goals
   go_wp2_with fail
   go_meet
   case rel=> exact ⟨rfl,rfl,Ag⟩
 case rest=>
  obtain ⟨rfl,rfl,Ag⟩:=hcut;have H5:=zh (HH.out.below Ag);have A8:=zh Ag;clear Ag RB EZ x0 x1 x2 x3 x4 x5 x6 x7 x8 x18
  by_cases CG:ec=0
  ·subst CG;obtain ⟨Ai,Ax⟩:=FR z rfl;obtain ⟨Ij,Ef⟩:=La rfl;have HE:=zh (HE.out.trans (if_neg (fun h=> h rfl)));clear FR La;rw [show (((0:Nat)):Int)=0 from rfl]
   by_cases Aq:b < 0
   ·have HE:=zh (HE.out.trans (if_pos (.inl Aq)));go_wp2;go_ret2;unfold zfL;exact ⟨.inl ⟨by rw [HE.out];decide,by rw [HE.out];rfl⟩,A8.out⟩
   by_cases XQ:(z:Int)<=b
   ·have HE:=zh (HE.out.trans (if_pos (.inr XQ)));go_wp2;go_ret2;unfold zfL;exact ⟨.inl ⟨by rw [HE.out];decide,by rw [HE.out];rfl⟩,A8.out⟩
   have HE:=zh (HE.out.trans (if_neg ud));obtain ⟨vn,rfl⟩:∃vn:Nat,v=(vn:Int):=⟨v.toNat,ud⟩;obtain ⟨bn,rfl⟩:∃bn:Nat,b=(bn:Int):=⟨b.toNat,ud⟩;obtain ⟨F,L,E,Hq⟩:=H5.out.hist;have Cj:=zh (zf6 Hq H5.out.llen vn bn t ud ud ht);obtain ⟨-,-,-,-,-,-,-,-,-,x9,-⟩:=H5.out.reads;have LF:=zh (fun W (hW:θ w w W)=> zhA (HH.out.below hW) (v:=vn) (b:=bn) (t:=t));unfold zv at Cj;have HN:=zh (zn Aq XQ);have Aq:¬(bn:Int) < 0:=ud;have XQ:¬(z:Int)<=(bn:Int):=HN.out.2;clear Hq Ai Ax Ij Ef;go_wp2_with fail;refine Cj.out.mono ?_;rintro e w6 ⟨rfl,AT⟩;have ZA:=zh (LF.out w6 (A8.out.trans (AT.mono A8.out.size)));have DW:=zh (A8.out.trans (AT.mono A8.out.size));clear AT Cj LF;go_wp2_with fail;refine ZA.out.mono ?_;rintro e w7 ⟨r,rfl,Jo,NJ,B1⟩;have H7:=zh (zn Jo (zn NJ B1));clear Jo NJ B1 ZA;go_wp2;go_ret2;unfold zfL;rw [HE.out];exact ⟨.inr ⟨rfl,by simpa using H7.out.2.1,r,rfl,by simpa using zc0 H7.out.1 DW.out.size⟩,DW.out.trans (H7.out.2.2.mono DW.out.size)⟩
  have i0:((ec:Int) !=0)=true:=uo;have HE:=zh (HE.out.trans (if_pos CG));have Rq:=zh CG;clear CG FR La;go_wp2;go_ret2;unfold zfL;exact ⟨.inl ⟨by rw [HE.out];exact Rq.out,by rw [HE.out];rfl⟩,A8.out⟩
end
section
open Go.RowKit
theorem zna (hi:CtI st.c s k) (v b:Int):((zaD st.c v b 1).2≠0/\zly st v b=((zaD st.c v b 1).2, []))\/((zaD st.c v b 1).2=0/\zly st v b=(0,zbX st.bl (atL st.l v.toNat b.toNat st.seq))/\(0<=v/\v<=65535)/\0<=b/\b < 1000):=by
 unfold zaD zly
 cases hf:st.c.find v with
 | none=> exact .inl ⟨uh,rfl⟩
 | some y=>
   have h1:=za0 hf;have h2:=(hi.vols y h1.1).id;have h3:=hi.nv;have h4:=zbR (hi.vols y h1.1).sizes;simp only
   by_cases h:b < 0\/(zas y.sizes:Int) - b < 1
   ·rw [if_pos h,if_pos ud];exact .inl ⟨uh,rfl⟩
   rw [if_neg h,if_neg ud];exact .inr ⟨rfl,rfl,ud,ud,ud⟩
theorem zm9 {a:StA}     (H:StW w p h a cf st nb k Q) (v b:Int) (hb:b<=9223372036854775807):
 χ 13 #[π (some ↑p),↑v,↑b] w (zfL w (zly st v b)):=by
 have HW:=zh (zen H v b 1 hb);have AW:=zna (st:=st) H.inv.ct v b;obtain ⟨⟨z,ec⟩,ST⟩:∃r,zaD st.c v b 1=r:=⟨_,rfl⟩;rw [ST] at HW AW;simp only at HW AW;have HC:=zh AW;have HH:=zh H;go_in;go_wp2_with fail;refine HW.out.mono ?_;rintro e w5 ⟨rfl,Ag⟩;have A8:=zh Ag
 by_cases CG:ec=0
 ·subst CG;rcases HC.out with ⟨h0,-⟩ | ⟨-,hE,hv,Ae⟩
  ·exact absurd rfl h0
  have HE:=zh hE;have H5:=zh (HH.out.below A8.out);obtain ⟨vn,rfl⟩:∃vn:Nat,v=(vn:Int):=⟨v.toNat,ud⟩;obtain ⟨bn,rfl⟩:∃bn:Nat,b=(bn:Int):=⟨b.toNat,ud⟩;obtain ⟨F,L,E,Hq⟩:=H5.out.hist;have Cj:=zh (fun W (hW:θ w5 w5 W)=> zf6 (Hq.below hW) H5.out.llen vn bn st.seq ud ud H5.out.inv.seq);have Az:=zh (fun W (hW:θ w5 w5 W)=> show W (p 9 ())=some (π (some ⟨a.ph,0,none⟩))/\W (p 18 ())=some (υ st.seq) from ⟨(H5.out.below hW).reads.2.2.2.2.2.2.2.2.2.1,(H5.out.below hW).reads.2.2.2.2.2.2.2.2.2.2.2.2.2.2.2.2.2.2.1⟩);have Cu:θ w5 w5 w5.drew:=zr.drew;have LF:=zh (fun W (hW:θ w w W)=> zhA (HH.out.below hW) (v:=vn) (b:=bn) (t:=st.seq));have s9:=H5.out.reads.2.2.2.2.2.2.2.2.2.1;have s18:=H5.out.reads.2.2.2.2.2.2.2.2.2.2.2.2.2.2.2.2.2.2.1;unfold zv at Cj;rw [show (((0:Nat)):Int)=0 from rfl];go_wp2_with fail
  go_region_held3 (fun W=> W (p 9 ())=some (π (some ⟨a.ph,0,none⟩))/\W (p 18 ())=some (υ st.seq)) (first | with_reducible exact Bg | with_reducible exact Ca | go_keep)
       (first | ((go_at_call 21;((with_reducible refine (Cj.out _ Cu).mono ?_);rintro e w6 ⟨rfl,AT⟩;have AT:θ w5 w5 w6:=Cu.trans AT;have Bg:=Az.out w6 AT))) | ((go_at_call 20;((with_reducible refine (LF.out _ (A8.out.trans (AT.mono A8.out.size))).mono ?_);rintro e w7 ⟨r,rfl,Jo,NJ,B1⟩;have Ca:=Az.out w7 (AT.trans (B1.mono AT.size))))))
  have DW:=zh (A8.out.trans (AT.mono A8.out.size));have H7:=zh (zn Jo (zn NJ B1));go_wp2;go_ret2;unfold zfL;rw [HE.out];exact ⟨.inr ⟨rfl,by simpa using H7.out.2.1,r,rfl,by simpa using zc0 H7.out.1 DW.out.size⟩,DW.out.trans (H7.out.2.2.mono DW.out.size)⟩
 have i0:((ec:Int) !=0)=true:=uo;rcases HC.out with ⟨h0,hE⟩ | ⟨h0,-⟩
 ·have HE:=zh hE;have Rq:=zh CG;go_wp2;go_ret2;unfold zfL;exact ⟨.inl ⟨by rw [HE.out];exact Rq.out,by rw [HE.out];rfl⟩,A8.out⟩
 exact absurd h0 CG
end
section
open Go.RowKit
theorem zjb (n:Int) (w:World):χ 47 #[↑n] w fun e w'=> e=ρ (.bool (zfu n))/\w=w':=by
 unfold zfu
 by_cases h1:1<=n
 ·by_cases h2:n<=32
  ·go_in;go_wp2;go_ret;exact ⟨by simp [*],rfl⟩
  go_in;go_wp2;go_ret;exact ⟨by simp [*],rfl⟩
 go_in;go_wp2;go_ret;exact ⟨uo,rfl⟩
theorem zj8 (n:Int) (w:World):χ 48 #[↑n] w fun e w'=> e=ρ (.bool (znF n))/\w=w':=by
 unfold znF
 by_cases h1:1<=n
 ·by_cases h2:n<=65535
  ·go_in;go_wp2;go_ret;exact ⟨by simp [*],rfl⟩
  go_in;go_wp2;go_ret;exact ⟨by simp [*],rfl⟩
 go_in;go_wp2;go_ret;exact ⟨uo,rfl⟩
theorem zjd (n:Int) (w:World):χ 49 #[↑n] w fun e w'=> e=ρ (.bool (zfv n))/\w=w':=by
 unfold zfv
 by_cases h1:0<=n
 ·by_cases h2:n<=31
  ·have h3:n < 32:=ud
   go_in;go_wp2;go_ret;exact ⟨by simp [*],rfl⟩
  have h3:¬n < 32:=ud
  go_in;go_wp2;go_ret;exact ⟨by simp [*],rfl⟩
 go_in;go_wp2;go_ret;exact ⟨uo,rfl⟩
theorem Is.cell {k:IntKind}    {l:List Int} (h:Is k w a n l) (i:Nat) (hi:i < n):
 ∃(b o:Nat) (x:Int),a=some (b o ())/\l[i]? =some x/\w (b (o+i) ())=some (.int k x):=by
 have hl:=h.len;obtain ⟨b,o,ha,hc⟩:=h.at ud;have Mr:=hc i hi;refine ⟨b,o,l[i],ha,ze ud, ?_⟩;rw [Mr]
 congr 2
 simp [List.getD,show i < l.length by omega]
theorem zgv (x:Int):∀(l:List Int) (last:Int),zbU last (l++ [x])=(zbU last l && (decide ((l.getLast?.getD last) < x) && decide (x≤65535)))
 | [],last=> by
   show (decide (last < x) && decide (x≤65535) && true)=(true && (decide (last < x) && decide (x≤65535)))
   rw [Bool.and_true,Bool.true_and]
 | y ::r,last=> by
   simp only [List.cons_append,zbU,zgv x r y];have:((y::r).getLast?.getD last)=(r.getLast?.getD y):=by
     cases r with
     | nil=> rfl
     | cons z r=> simp [List.getLast?_cons]
   rw [this];simp only [Bool.and_assoc]
theorem zlA (l:List Int) (i:Nat) (x:Int) (hx:l[i]? =some x):zbU 0 (l.take (i+1))=(zbU 0 (l.take i) && (decide ((l.take i).getLast?.getD 0 < x) && decide (x<=65535))):=by
 rw [List.take_add_one,hx];exact zgv x _ 0
theorem zfB (l:List Int) (i:Nat) (h:zbU 0 (l.take i)=false):zbU 0 l=false:=by
 have:∀(a b:List Int) (last:Int),zbU last a=false->zbU last (a++b)=false:=by
  intro a
  induction a with
  | nil=> intro b last h;simp [zbU] at h
  | cons y r ih=>
    intro b last h;simp only [List.cons_append,zbU] at h ⊢
    cases hd:(decide (last < y) && decide (y<=65535)) with
    | false=> simp
    | true=> rw [hd] at h;simp only [Bool.true_and] at h ⊢;exact ih b y h
 rw [<- List.take_append_drop i l];exact this _ _ 0 h
theorem zic:∀(l:List Int) (last:Int),0<=last->zbU last l=true->0<=l.getLast?.getD last
 | [],last,h,_=> h
 | y ::r,last,h,hr=> by
   simp only [zbU,Bool.and_eq_true,decide_eq_true_eq] at hr;have:((y::r).getLast?.getD last)=(r.getLast?.getD y):=by
     cases r with
     | nil=> rfl
     | cons z r=> simp [List.getLast?_cons]
   rw [this];exact zic r y (by omega) hr.2
theorem zmK (l:List Int) (i:Nat) (x:Int) (hx:l[i]? =some x):(l.take (i+1)).getLast?.getD 0=x:=by
 rw [List.take_add_one,hx];simp
theorem zja (a:Option Addr) (n cap:Nat) (l:List Int) (w:World) (h:Is .i64 w a n l) (hn:n<=1000000000):
 χ 50 #[σ a n cap] w fun e w'=> e=ρ (.bool (zfT l))/\w=w':=by
 have HB:=zh h;have HL:=zh h.len;obtain ⟨r,hr⟩:∃r,r=zfT l:=⟨_,rfl⟩;rw [<- hr];have HR:=zh hr;clear h hr;go_in;go_wp2_with fail
 go_loop [7] (fun u7=> ∃k:Nat,k<=n/\u7= ι k/\Hid (zbU 0 (l.take k)=true)) (fun u7=> n - (intOf u7).toNat)
 case atStart=> exact ⟨0,ud,rfl,zh rfl⟩
 case round=>
  obtain ⟨k,hk,rfl,HK⟩:=hrel
  by_cases hlt:k < n
  ·obtain ⟨b,o,x,rfl,hx,GB⟩:=Is.cell HB.out k hlt;have DU:=zlA l k x hx;have BP:=zic (l.take k) 0 ud HK.out;rw [HK.out] at DU;have hid:=zj8 x w;obtain ⟨q,hq⟩:∃q,znF x=q:=⟨_,rfl⟩;rw [hq] at hid;have M5:=zh hid
   cases q
   ·have BH:zbU 0 (l.take (k+1))=false:=by
     rw [DU];unfold znF at hq
     by_cases h1:1<=x
     ·have h2:¬x<=65535:=by intro h2;simp [h1,h2] at hq
      simp [h2]
     have h2:¬(l.take k).getLast?.getD 0 < x:=ud;simp [h2]
    have Gf:r=false:=by rw [HR.out,zfT,zfB l (k+1) BH];rfl
    subst Gf;clear hx DU BH HK hid hq BP;go_wp2_with fail;refine M5.out.mono ?_;rintro e w1 ⟨rfl,rfl⟩;go_wp2;go_ret;exact ⟨rfl,rfl⟩
   have Up:1<=x/\x<=65535:=by
    unfold znF at hq
    simpa using hq
   cases k with
   | zero=>
     rw [Nat.add_zero] at GB;have BH:zbU 0 (l.take (0+1))=true:=by
      rw [DU];have:((l.take 0).getLast?.getD 0)=0:=rfl;rw [this];simp [Up.2];omega
     have HN:=zh BH;clear hx DU BH HK hid hq BP;go_wp2_with fail;refine M5.out.mono ?_;rintro e w1 ⟨rfl,rfl⟩;go_wp2_with fail;exact ⟨⟨1,ud,by go_num,HN⟩,by simp [intOf];omega⟩
   | succ k=>
     obtain ⟨_,_,y,e1,hy,bV⟩:=Is.cell HB.out k ud
     cases e1
     have KC:=zmK l k y hy;rw [KC] at DU;have BX:(0:Int) < ((k+1:Nat):Int):=ud;have BY:IntKind.i64.wrap (((k+1:Nat):Int) - 1)=(k:Int):=by rw [zw _ ud];omega
     have kS:(0:Int)<=(k:Int):=ud;have G9:(k:Int) < (n:Int):=ud
     by_cases qz:y < x
     ·have BH:zbU 0 (l.take (k+1+1))=true:=by rw [DU];simp [qz,Up.2]
      have HN:=zh BH;clear hx DU BH HK hid hq BP KC hy;go_wp2_with fail;refine M5.out.mono ?_;rintro e w1 ⟨rfl,rfl⟩;go_wp2_with fail;exact ⟨⟨k+1+1,ud,by go_num,HN⟩,by simp [intOf];omega⟩
     have BH:zbU 0 (l.take (k+1+1))=false:=by rw [DU];simp [qz]
     have Gf:r=false:=by rw [HR.out,zfT,zfB l (k+1+1) BH];rfl
     subst Gf;clear hx DU BH HK hid hq BP KC hy;go_wp2_with fail;refine M5.out.mono ?_;rintro e w1 ⟨rfl,rfl⟩;go_wp2;go_ret;exact ⟨rfl,rfl⟩
  have G9:k=n:=ud;subst G9;have P6:r=(decide (1<=k) && decide (k<=8)):=by
       have:=HK.out;rw [zk (by rw [HL.out];omega)] at this
       rw [HR.out,zfT,this,HL.out];rfl
  clear HK
  by_cases h1:1<=k
  ·by_cases h2:k<=8
   ·have KZ:r=true:=by rw [P6];simp [h1,h2]
    subst KZ;clear P6;go_wp2;go_ret;exact ⟨by simp <;> omega,rfl⟩
   have KZ:r=false:=by rw [P6];simp [h2]
   subst KZ;clear P6;go_wp2;go_ret;exact ⟨by simp <;> omega,rfl⟩
  have KZ:r=false:=by rw [P6];simp [h1]
  subst KZ;clear P6;go_wp2;go_ret;exact ⟨by simp <;> omega,rfl⟩
theorem zje (k v i b n pt:Int) (da ma:Option Addr) (dn dc mn mc:Nat) (mem:List Int) (w:World) (hm:Is .i64 w ma mn mem) (QV:mn<=1000000000):
 χ 24 #[.agg #[↑k,↑v,↑i,↑b,↑n,υ pt,σ da dn dc,σ ma mn mc]] w fun e w'=> e=ρ (.bool (zeC k v i b n dn mem))/\θ w w w':=by
 obtain ⟨w1,Ab⟩:∃w1,w1=w.alloc (.cells #[↑k,↑v,↑i,↑b,↑n,υ pt,σ da dn dc,σ ma mn mc] 40):=⟨_,rfl⟩;have hb:θ w w w1:=by rw [Ab];exact zr.alloc zl _
 have hX:w1.heap[w.heap.size]? =some (.cells #[↑k,↑v,↑i,↑b,↑n,υ pt,σ da dn dc,σ ma mn mc] 40):=by rw [Ab];exact heap_alloc_new w _
 obtain ⟨x0,x1,x2,x3,x4,x5,x6,x7⟩:=rd8 (w:=w1) hX;have HM:=zh (zja ma mn mc mem w1 (Is.below hm hb zl) QV);have HB:=zh hb;clear hb hX hm QV
 by_cases hk:1<=k/\k<=19
 ·obtain ⟨y0,h0⟩:∃y,znF v=y:=⟨_,rfl⟩;obtain ⟨y1,h1⟩:∃y,znF i=y:=⟨_,rfl⟩;obtain ⟨y2,h2⟩:∃y,zfv b=y:=⟨_,rfl⟩;obtain ⟨y3,h3⟩:∃y,zfu n=y:=⟨_,rfl⟩;obtain ⟨y4,h4⟩:∃y,zfT mem=y:=⟨_,rfl⟩;rcases kinds k hk.1 hk.2 with rfl | rfl | rfl | rfl | rfl | rfl | rfl | rfl | rfl | rfl | rfl | rfl | rfl | rfl | rfl | rfl | rfl | rfl | rfl
  (cases y3)
  rotate_left 2
  (cases y0)
  rotate_left 2
  (cases y0 <;> cases y3)
  rotate_left 4
  (cases y0 <;> cases y2 <;> rcases (by omega:¬1<=dn\/(1<=dn/\dn<=64)\/(1<=dn/\¬dn<=64)) with d1 | ⟨d1,d2⟩ | ⟨d1,d2⟩)
  rotate_left 12
  (cases y0 <;> cases y2 <;> cases y3)
  rotate_left 8
  (cases y4)
  rotate_left 2
  (cases y1)
  rotate_left 2
  (cases y1)
  rotate_left 2
  (cases y1)
  rotate_left 2
  (cases y0)
  rotate_left 2
  (cases y0)
  rotate_left 2
  (cases y0 <;> cases y1)
  rotate_left 4
  (cases y0)
  rotate_left 2;rotate_left
  (cases y0 <;> cases y2)
  rotate_left 4
  (cases y0 <;> cases y2)
  rotate_left 4;rotate_left;rotate_left;rotate_left
  all_goals
   clear hk;go_in;go_upto_region 1 with fail;rw [<- Ab];clear Ab
   go_wp2_with (first | (go_at_call 47;with_reducible refine (zjb _ _).mono ?_;rintro e w' ⟨rfl,rfl⟩) | (go_at_call 48;with_reducible refine (zj8 _ _).mono ?_;rintro e w' ⟨rfl,rfl⟩) | (go_at_call 49;with_reducible refine (zjd _ _).mono ?_;rintro e w' ⟨rfl,rfl⟩) | (go_at_call 50;with_reducible refine HM.out.mono ?_;rintro e w' ⟨rfl,rfl⟩))
   go_ret;exact ⟨by first | (simp [zeC,zh1,zpW,zj7, *];done) | (simp [zeC,zh1,zpW,zj7, *];omega),HB.out⟩
 have hn:∀j:Int,1<=j->j<=19->(k==j)=false:=fun j a c=> by rw [beq_eq_false_iff_ne];omega
 have n1:=hn 1 uf uf;have n2:=hn 2 uf uf;have n3:=hn 3 uf uf;have n4:=hn 4 uf uf;have n5:=hn 5 uf uf;have n6:=hn 6 uf uf;have n7:=hn 7 uf uf;have n8:=hn 8 uf uf;have n9:=hn 9 uf uf;have n10:=hn 10 uf uf;have n11:=hn 11 uf uf;have n12:=hn 12 uf uf;have n13:=hn 13 uf uf;have n14:=hn 14 uf uf;have n15:=hn 15 uf uf;have n16:=hn 16 uf uf;have n17:=hn 17 uf uf;have n18:=hn 18 uf uf;have n19:=hn 19 uf uf;have HR:=zh (show zeC k v i b n dn mem=false from by
  unfold zeC;rw [show (decide (1<=k) && decide (k<=19))=false from by
       rw [<- Bool.decide_and];exact decide_eq_false hk]
  rfl)
 clear hk hn;go_in;go_upto_region 1 with fail;rw [<- Ab];clear Ab;go_wp2;go_ret;exact ⟨by rw [HR.out];rfl,HB.out⟩
end
section
open Go.RowKit
structure Ph where
 b:Nat
 a:Nat
 d:Option (Nat × List UInt8)
def dV:Option (Nat × List UInt8)->Value
 | none=> σ none 0 0
 | some x=> σ (some ⟨x.1,0,none⟩) 64 64
def zaT (x:Ph):List Value:= [↑x.b,ν x.a,dV x.d]
def Ph.pu (x:Ph):Pu:=⟨x.b,x.a,x.d.map (·.2)⟩
theorem zfh (x:Ph):(zaT x).length=3:=rfl
theorem zmg (x:Ph):∀u ∈ zaT x,u.oneCell'=true:=fun u hu=> by
 simp [zaT] at hu;rcases hu with rfl | rfl | rfl
 ·rfl
 ·rfl
 cases x.d <;> rfl
theorem zpS:(prog.info? 91).map (fun i=> (i.zero,i.size,i.bytes))=some (some (.agg #[ι 0,ν 0,σ none 0 0]),3,40):=ue
def zb8 (h:Ch) (g:Chg) (pv:Value):Array Value:=#[↑g.c.nv,↑g.c.ng,↑g.c.nb,υ g.c.fl,σ h.va g.c.vols.length h.vc,σ h.ga g.c.groups.length h.gc,σ h.ba g.c.books.length h.bc,σ h.ka g.c.kept.length h.kc,σ h.ta g.c.times.length h.tc,↑g.id,↑g.vol,pv,↑g.drop, .bool g.prune,υ g.seq]
structure ChM (Q:Nat->Prop) (B:Nat) (w:World) (x:Nat) (h:Ch) (g:Chg) (pv:Value) (pl:List Ph):Prop where
 box:w.heap[x]? =some (.cells (zb8 h g pv) 81 (0,0))
 lo:B<=x
 cat:zaV (fun j=> Q j\/j=x\/pv.ownBlock=some j) w h g.c
 puts:zK zaT 3 91 w B pv pl
 ne:pv.ownBlock≠some x
 map:pl.map Ph.pu=g.puts
 dat:∀y ∈ pl,∀z,y.d=some z->Bs w (some ⟨z.1,0,none⟩) 64 z.2/\¬(Q z.1\/z.1=x\/pv.ownBlock=some z.1)
section
variable {Q:Nat→Prop} {B:Nat} {w:World} {x:Nat} {h:Ch} {g:Chg} {pv:Value} {pl:List Ph}
theorem ChM.xlt (X:ChM Q B w x h g pv pl):x < ↑w:=(zg X.box).1
theorem ChM.reads (X:ChM Q B w x h g pv pl):w x=some ↑g.c.nv/\w (x 1 ())=some ↑g.c.ng/\w (x 2 ())=some ↑g.c.nb/\w (x 3 ())=some (υ g.c.fl)/\w (x 4 ())=some (σ h.va g.c.vols.length h.vc)/\w (x 5 ())=some (σ h.ga g.c.groups.length h.gc)/\w (x 6 ())=some (σ h.ba g.c.books.length h.bc)/\w (x 7 ())=some (σ h.ka g.c.kept.length h.kc)/\w (x 8 ())=some (σ h.ta g.c.times.length h.tc)/\w (x 9 ())=some ↑g.id/\w (x 10 ())=some ↑g.vol/\w (x 11 ())=some (pv)/\w (x 12 ())=some ↑g.drop/\w (x 13 ())=some (.bool g.prune)/\w (x 14 ())=some (υ g.seq)/\∀j,w.frozen? (x j ())=false:=by
 have hb:=X.box;exact ⟨cell_of_row w _ 0 _ _ _ hb,cell_of_row w _ 1 _ _ _ hb,cell_of_row w _ 2 _ _ _ hb,cell_of_row w _ 3 _ _ _ hb,cell_of_row w _ 4 _ _ _ hb,cell_of_row w _ 5 _ _ _ hb,cell_of_row w _ 6 _ _ _ hb,cell_of_row w _ 7 _ _ _ hb,cell_of_row w _ 8 _ _ _ hb,cell_of_row w _ 9 _ _ _ hb,cell_of_row w _ 10 _ _ _ hb,cell_of_row w _ 11 _ _ _ hb,cell_of_row w _ 12 _ _ _ hb,cell_of_row w _ 13 _ _ _ hb,cell_of_row w _ 14 _ _ _ hb,fun j=> by simp [World.frozen?,hb]⟩
theorem ChM.blk (X:ChM Q B w x h g pv pl) {y:Ph} (hy:y ∈ pl) {z:Nat × List UInt8} (hz:y.d=some z):z.1 < ↑w:=by
 obtain ⟨b,o,c,e,-,-,h1⟩:=Bs.cell (X.dat y hy z hz).1 0 ud
 cases e
 exact h1
theorem ChM.below (X:ChM Q B w x h g pv pl) (hb:θ w w w'):ChM Q B w' x h g pv pl:=
 ⟨(hb.block x X.xlt).trans X.box,X.lo,X.cat.below hb,X.puts.below hb zl,X.ne,X.map,fun y hy z hz=> ⟨(X.dat y hy z hz).1.below hb zl,(X.dat y hy z hz).2⟩⟩
theorem ChM.turn {g':Chg} (X:ChM Q B w x h g pv pl) (hb:w'.heap[x]? =some (.cells (zb8 h' g' pv) 81 (0,0))) (hg:w.grownBy w' (some x)) (hc:zaV (fun j=> Q j\/j=x\/pv.ownBlock=some j) w h' g'.c) (hp:g'.puts=g.puts):ChM Q B w' x h' g' pv pl:=
 ⟨hb,X.lo,hc.outs ((zD.turn (D:=fun j=> j=x) hg rfl).more fun j hj=> .inr (.inl hj)) (fun j hj=> .inl hj),zK.heap X.puts fun r hr=> hg.block r (X.puts.lt r hr).2 fun e=> X.ne (by rw [hr];exact e),X.ne,X.map.trans hp.symm,fun y hy z hz=> ⟨Bs.heap (X.dat y hy z hz).1 (hg.block z.1 (X.blk hy hz) fun e=> (X.dat y hy z hz).2 (.inr (.inl ubl))),(X.dat y hy z hz).2⟩⟩
theorem ChM.push (X:ChM Q B w x h g pv pl) (hQ:∀j,Q j->j < ↑w) (y:Ph) (hd:∀z,y.d=some z->Bs w (some ⟨z.1,0,none⟩) 64 z.2/\¬(Q z.1\/z.1=x\/pv.ownBlock=some z.1)) (hl:pl.length<=1000) (hB:B<=↑w):
 ∃ v' w',(Builtin.append_ #[79,79] 79 #[pv,σ (some ↑w) 1 1]).run prog (w.alloc (.cells (zaT y).toArray 91))= .ok v' w'/\
   (w' (x 11 ())=some pv/\w'.frozen? (x 11 ())=false)/\(w.alloc (.cells (zaT y).toArray 91)) (x 11 ())=some pv/\(∃a n c,v'=σ a n c)/\
   ChM Q B (w'.setCell (x 11 ()) v') x h {g with puts:=g.puts++ [y.pu]} v' (pl++ [y])/\θ B w (w'.setCell (x 11 ()) v') /\zD (fun j=> j=x\/pv.ownBlock=some j) w (w'.setCell (x 11 ()) v')/\∀j,v'.ownBlock=some j->pv.ownBlock=some j\/j=w.heap.size+1:=by
 have AR:=World.alloc_size w (.cells (zaT y).toArray 91);obtain ⟨v',w',hr,ho,hg,hk⟩:=zK.pushAt2 zfh uf zmg Tryz.underlying79 zpS rfl uf X.puts y ud hB;have CI:=X.xlt;have Il:w'.heap[x]? =w.heap[x]? :=hg.block x CI fun e=> X.ne e.symm;have AH:=Il.trans X.box;have e1:=heap_setCell_same w' x 11 _ _ v' AH;have Cf:=zq w' (x 11 ()) v';have JK:∀r,pv.ownBlock=some r->r < ↑w:=fun r hr=> (X.puts.lt r hr).2;have Aq:θ B w w':=Below.own (Below.refl B w) X.puts hg zl hB;have Aa:θ B w (w'.setCell (x 11 ()) v'):=Aq.setCell (p:=(x 11 ())) X.lo v';have Gj:∀j,v'.ownBlock=some j->pv.ownBlock=some j\/j=w.heap.size+1:=fun j hj=> by
  rcases hk with hk | hk
  ·exact .inl (by rw [<- hk];exact hj)
  rw [hk] at hj;exact .inr (by simpa using hj.symm)
 have Bo:zD (fun j=> j=x\/pv.ownBlock=some j) w (w'.setCell (x 11 ()) v'):=
  (zD.of_grown (D:=fun j=> j=x\/pv.ownBlock=some j) hg fun r hr=> .inl (.inr hr)).trans (zD.turn (D:=fun j=> j=x\/pv.ownBlock=some j) Cf (.inl rfl)) fun _ h=> .inl h
 have Bi:=X.cat.outs (Q':=fun j=> Q j\/j=x\/v'.ownBlock=some j) (Bo.more fun j hj=> .inr hj) fun j hj=> by
  rcases hj with hj | hj | hj
  ·exact .inl (.inl hj)
  ·exact .inl (.inr (.inl hj))
  rcases Gj j hj with h1 | h1
  ·exact .inl (.inr (.inr h1))
  exact .inr ud
 have Ku:∀z:Nat × List UInt8,Bs w (some ⟨z.1,0,none⟩) 64 z.2->¬(Q z.1\/z.1=x\/pv.ownBlock=some z.1)->Bs (w'.setCell (x 11 ()) v') (some ⟨z.1,0,none⟩) 64 z.2/\¬(Q z.1\/z.1=x\/v'.ownBlock=some z.1):=fun z h1 h2=> by
  obtain ⟨b,o,c,e,-,-,F5⟩:=Bs.cell h1 0 ud
  cases e
  refine ⟨Bs.heap h1 (Bo.block z.1 F5 fun hd=> h2 (.inr hd)),fun hq=> ?_⟩;rcases hq with hq | hq | hq
  ·exact h2 (.inl hq)
  ·exact h2 (.inr (.inl hq))
  rcases Gj _ hq with h3 | h3
  ·exact h2 (.inr (.inr h3))
  omega
 have KK:v'.ownBlock≠some x:=fun e=> by
  rcases Gj x e with h1 | h1
  ·exact X.ne h1
  omega
 refine ⟨v',w',hr,⟨cell_of_row w' _ 11 _ _ _ AH,by simp [World.frozen?,AH]⟩, ?_,ho.form,⟨?_,X.lo,Bi,zK.heap ho fun r hr=> Cf.block r (ho.lt r hr).2 fun e=> KK (by rw [hr];exact e),KK, ?_,fun z hz u hu=> ?_⟩,Aa,Bo,Gj⟩
 ·rw [World.cell?_alloc_lt _ _ _ CI];exact cell_of_row w _ 11 _ _ _ X.box
 ·exact e1
 ·rw [List.map_append,X.map];rfl
 rcases List.mem_append.1 hz with hz | hz
 ·exact Ku u (X.dat z hz u hu).1 (X.dat z hz u hu).2
 simp at hz;subst hz;exact Ku u (hd u hu).1 (hd u hu).2
end
structure EvC (w0 w:World) (p:Nat) (h:Ch) (a:StA) (cf:Cfg) (st:PS) (nb k:Nat) (Q:Nat->Prop) (x:Nat) (hc:Ch) (g:Chg) (pv:Value) (pl:List Ph):Prop where
 st:StW w0 p h a cf st nb k Q
 bel:θ w0 w0 w
 chg:ChM Q ↑w0 w x hc g pv pl
theorem EvC.stw {a:StA}       {g:Chg}  {pl:List Ph} (H:EvC w0 w p h a cf st nb k Q x hc g pv pl):StW w p h a cf st nb k Q:=H.st.below H.bel
theorem EvC.below {a:StA}       {g:Chg}  {pl:List Ph} (H:EvC w0 w p h a cf st nb k Q x hc g pv pl) (hb:θ w w w'):EvC w0 w' p h a cf st nb k Q x hc g pv pl:=⟨H.st,H.bel.trans (hb.mono H.bel.size),H.chg.below hb⟩
def EvE (w0:World) (Q:Nat->Prop) (x:Nat) (r:Nat × Chg) (e:Ending) (w':World):Prop:=e=ρ ↑r.1/\θ w0 w0 w'/\(r.1=0->∃hc pv pl,ChM Q ↑w0 w' x hc r.2 pv pl)
def opA (o:PO) (da:Option Addr) (dn dc:Nat) (ma:Option Addr) (mn mc:Nat):Array Value:=#[↑o.k,↑o.v,↑o.i,↑o.b,↑o.n,υ o.pt,σ da dn dc,σ ma mn mc]
structure OpM (w:World) (o:PO) (da:Option Addr) (dn:Nat) (ma:Option Addr) (mn:Nat):Prop where
 bs:Bs w da dn o.d
 ms:zM zcm 1 w ma mn o.m
 few:dn<=300/\mn<=100
 fit:o.v<=9223372036854775807/\o.i<=9223372036854775807/\o.b<=9223372036854775807/\o.n<=9223372036854775807
 pt:0<=o.pt/\o.pt < 18446744073709551616
theorem OpM.below (H:OpM w o da dn ma mn) (hb:θ w w w'):OpM w' o da dn ma mn:=⟨H.bs.below hb zl,H.ms.below hb zl,H.few,H.fit,H.pt⟩
theorem evS {a:StA}           (H:EvC w0 w p h a cf st nb k Q x h (Chg.nil st.c sq) (σ none 0 0) []) (AE:sq=st.seq+1) (hO:OpM w o da dn ma mn) (dc mc:Nat):
 ∃w1,w1=w.alloc (.cells (opA o da dn dc ma mn mc) 40)/\w1.heap[w.heap.size]? =some (.cells (opA o da dn dc ma mn mc) 40 (0,0))/\Hid (EvC w0 w1 p h a cf st nb k Q x h (Chg.nil st.c sq) (σ none 0 0) [])/\x≠↑w/\Hid (w1.heap[w.heap.size]? =some (.cells (opA o da dn dc ma mn mc) 40 (0,0))/\↑w1=w.heap.size+1/\sq=st.seq+1/\OpM w1 o da dn ma mn)/\Hid (∀W,θ w1 w1 W->W.heap[w.heap.size]? =some (.cells (opA o da dn dc ma mn mc) 40 (0,0))):=by
 obtain ⟨w1,Ab⟩:∃w1,w1=w.alloc (.cells (opA o da dn dc ma mn mc) 40):=⟨_,rfl⟩;have Aa:θ w w w1:=by rw [Ab];exact zr.alloc zl _
 have Ai:↑w1=w.heap.size+1:=by rw [Ab,World.alloc_size]
 have hX:w1.heap[w.heap.size]? =some (.cells (opA o da dn dc ma mn mc) 40 (0,0)):=by rw [Ab];exact heap_alloc_new w _
 exact ⟨w1,Ab,hX,H.below Aa,fun e=> by have:=H.chg.xlt;omega,⟨hX,Ai,AE,hO.below Aa⟩,fun W hW=> (hW.block ↑w ud).trans hX⟩
end
end Go.Proofs.YtaoceecfjlkmdaaGreat
