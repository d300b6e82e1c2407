/- Lemmas of the walks, merged and pressed by press.py. Conditions: those of each theorem. -/
import Derived.Test.YtaoceecfjlkmdaaGreatM40
import Derived.Test.YtaoceecfjlkmdaaGreatM39
import Derived.Test.YtaoceecfjlkmdaaGreatM33
import Derived.Test.YtaoceecfjlkmdaaGreatM18
set_option maxRecDepth 100000
set_option maxHeartbeats 64000000
set_option linter.all false
namespace Go.Proofs.YtaoceecfjlkmdaaGreat
open Tryz
section
open Go.RowKit
theorem zkJ {w0 w:World} {p:Nat} {h:Ch} {a:StA} {cf:Cfg} {st:PS} {nb k:Nat} {Q:Nat->Prop} {x sq:Nat} {o:PO} {da:Option Addr} {dn dc:Nat} {ma:Option Addr} {mn mc:Nat} (H:EvC w0 w p h a cf st nb k Q x h (Chg.nil st.c sq) (.slice none 0 0) []) (AE:sq=st.seq+1) (hO:OpM w o da dn ma mn) (hR:PoR o) (hk:o.k=2):
 Calls Tryz.prog 26 #[.pointer (some ⟨p,0,none⟩), .pointer (some ⟨x,0,none⟩), .agg (opA o da dn dc ma mn mc)] w (EvE w0 Q x (zbh st.c sq o)):=by
 obtain ⟨w1,Ab,hX,H1,Cm,HX,AU⟩:=evS H AE hO dc mc;have Al:=zh (fun (W:World) (hW:Below w1.heap.size w1 W)=> (H1.out.stw.below hW).reads);have CD:=zh (fun (W:World) (hW:Below w1.heap.size w1 W)=> (H1.out.chg.below hW).reads);obtain ⟨s0,s1,s2,s3,s4,s5,s6,s7,s8,s9,s10,s11,s12,s13,s14,s15,s16,s17,s18,s19,-⟩:=H1.out.stw.reads;obtain ⟨e0,e1,e2,e3,e4,e5,e6,e7,e8,e9,e10,e11,e12,e13,e14,-⟩:=H1.out.chg.reads;obtain ⟨o0,o1,o2,o3,o4,o5,o6,o7⟩:=rd8 (w:=w1) hX;clear H AE hO hX;have AK:=zh (zjp (dc:=dc) (mc:=mc) H1.out HX.out.2.2.1 HX.out.2.2.2 (hR.vol ud).1);unfold opA at AK;rw [hk] at AK;replace o0:=show w1.cell? ⟨w.heap.size,0,none⟩=some (.int .i64 o.k) from o0;rw [hk] at o0;clear hk hR Al CD s0 s1 s2 s3 s4 s5 s6 s7 s8 s9 s10 s11 s12 s13 s14 s15 s16 s17 s18 s19 e0 e1 e2 e3 e4 e5 e6 e7 e8 e9 e10 e11 e12 e13 e14;unfold opA at *;go_in;go_upto_region 1 with fail;rw [<- Ab];clear Ab;generalize hg:(zbh st.c sq o)=ev at *;clear hg;go_wp2_with fail;refine AK.out.mono ?_;rintro r w3 hE;unfold EvE at hE;obtain ⟨rfl,hE⟩:=hE;have HG:=zh hE;clear hE AK;go_wp2_with fail;go_ret;unfold EvE;exact ⟨ubj,HG.out⟩
theorem zkK {w0 w:World} {p:Nat} {h:Ch} {a:StA} {cf:Cfg} {st:PS} {nb k:Nat} {Q:Nat->Prop} {x sq:Nat} {o:PO} {da:Option Addr} {dn dc:Nat} {ma:Option Addr} {mn mc:Nat} (H:EvC w0 w p h a cf st nb k Q x h (Chg.nil st.c sq) (.slice none 0 0) []) (AE:sq=st.seq+1) (hO:OpM w o da dn ma mn) (hR:PoR o) (hk:o.k=3):
 Calls Tryz.prog 26 #[.pointer (some ⟨p,0,none⟩), .pointer (some ⟨x,0,none⟩), .agg (opA o da dn dc ma mn mc)] w (EvE w0 Q x (za6 st.c st.l sq o)):=by
 obtain ⟨w1,Ab,hX,H1,Cm,HX,AU⟩:=evS H AE hO dc mc;have Al:=zh (fun (W:World) (hW:Below w1.heap.size w1 W)=> (H1.out.stw.below hW).reads);have CD:=zh (fun (W:World) (hW:Below w1.heap.size w1 W)=> (H1.out.chg.below hW).reads);obtain ⟨s0,s1,s2,s3,s4,s5,s6,s7,s8,s9,s10,s11,s12,s13,s14,s15,s16,s17,s18,s19,-⟩:=H1.out.stw.reads;obtain ⟨e0,e1,e2,e3,e4,e5,e6,e7,e8,e9,e10,e11,e12,e13,e14,-⟩:=H1.out.chg.reads;obtain ⟨o0,o1,o2,o3,o4,o5,o6,o7⟩:=rd8 (w:=w1) hX;clear H AE hO hX;have AK:=zh (zjr (dc:=dc) (mc:=mc) H1.out HX.out.2.2.1 HX.out.2.2.2 (hR.vol ud) (hR.count ud));unfold opA at AK;rw [hk] at AK;replace o0:=show w1.cell? ⟨w.heap.size,0,none⟩=some (.int .i64 o.k) from o0;rw [hk] at o0;clear hk hR Al CD s0 s1 s2 s3 s4 s5 s6 s7 s8 s9 s10 s11 s12 s13 s14 s15 s16 s17 s18 s19 e0 e1 e2 e3 e4 e5 e6 e7 e8 e9 e10 e11 e12 e13 e14;unfold opA at *;go_in;go_upto_region 1 with fail;rw [<- Ab];clear Ab;generalize hg:(za6 st.c st.l sq o)=ev at *;clear hg;go_wp2_with fail;refine AK.out.mono ?_;rintro r w3 hE;unfold EvE at hE;obtain ⟨rfl,hE⟩:=hE;have HG:=zh hE;clear hE AK;go_wp2_with fail;go_ret;unfold EvE;exact ⟨ubj,HG.out⟩
theorem zkL {w0 w:World} {p:Nat} {h:Ch} {a:StA} {cf:Cfg} {st:PS} {nb k:Nat} {Q:Nat->Prop} {x sq:Nat} {o:PO} {da:Option Addr} {dn dc:Nat} {ma:Option Addr} {mn mc:Nat} (H:EvC w0 w p h a cf st nb k Q x h (Chg.nil st.c sq) (.slice none 0 0) []) (AE:sq=st.seq+1) (hO:OpM w o da dn ma mn) (hR:PoR o) (hk:o.k=4):
 Calls Tryz.prog 26 #[.pointer (some ⟨p,0,none⟩), .pointer (some ⟨x,0,none⟩), .agg (opA o da dn dc ma mn mc)] w (EvE w0 Q x (zaz st.c st.l sq o)):=by
 obtain ⟨w1,Ab,hX,H1,Cm,HX,AU⟩:=evS H AE hO dc mc;have Al:=zh (fun (W:World) (hW:Below w1.heap.size w1 W)=> (H1.out.stw.below hW).reads);have CD:=zh (fun (W:World) (hW:Below w1.heap.size w1 W)=> (H1.out.chg.below hW).reads);obtain ⟨s0,s1,s2,s3,s4,s5,s6,s7,s8,s9,s10,s11,s12,s13,s14,s15,s16,s17,s18,s19,-⟩:=H1.out.stw.reads;obtain ⟨e0,e1,e2,e3,e4,e5,e6,e7,e8,e9,e10,e11,e12,e13,e14,-⟩:=H1.out.chg.reads;obtain ⟨o0,o1,o2,o3,o4,o5,o6,o7⟩:=rd8 (w:=w1) hX;clear H AE hO hX;have AK:=zh (zlQ (dc:=dc) (mc:=mc) H1.out HX.out.2.2.1 HX.out.2.2.2 (hR.vol ud) (hR.place ud) hk);unfold opA at AK;rw [hk] at AK;replace o0:=show w1.cell? ⟨w.heap.size,0,none⟩=some (.int .i64 o.k) from o0;rw [hk] at o0;clear hk hR Al CD s0 s1 s2 s3 s4 s5 s6 s7 s8 s9 s10 s11 s12 s13 s14 s15 s16 s17 s18 s19 e0 e1 e2 e3 e4 e5 e6 e7 e8 e9 e10 e11 e12 e13 e14;unfold opA at *;go_in;go_upto_region 1 with fail;rw [<- Ab];clear Ab;generalize hg:(zaz st.c st.l sq o)=ev at *;clear hg;go_wp2_with fail;refine AK.out.mono ?_;rintro r w3 hE;unfold EvE at hE;obtain ⟨rfl,hE⟩:=hE;have HG:=zh hE;clear hE AK;go_wp2_with fail;go_ret;unfold EvE;exact ⟨ubj,HG.out⟩
theorem zkM {w0 w:World} {p:Nat} {h:Ch} {a:StA} {cf:Cfg} {st:PS} {nb k:Nat} {Q:Nat->Prop} {x sq:Nat} {o:PO} {da:Option Addr} {dn dc:Nat} {ma:Option Addr} {mn mc:Nat} (H:EvC w0 w p h a cf st nb k Q x h (Chg.nil st.c sq) (.slice none 0 0) []) (AE:sq=st.seq+1) (hO:OpM w o da dn ma mn) (hR:PoR o) (hk:o.k=5):
 Calls Tryz.prog 26 #[.pointer (some ⟨p,0,none⟩), .pointer (some ⟨x,0,none⟩), .agg (opA o da dn dc ma mn mc)] w (EvE w0 Q x (zaz st.c st.l sq o)):=by
 obtain ⟨w1,Ab,hX,H1,Cm,HX,AU⟩:=evS H AE hO dc mc;have Al:=zh (fun (W:World) (hW:Below w1.heap.size w1 W)=> (H1.out.stw.below hW).reads);have CD:=zh (fun (W:World) (hW:Below w1.heap.size w1 W)=> (H1.out.chg.below hW).reads);obtain ⟨s0,s1,s2,s3,s4,s5,s6,s7,s8,s9,s10,s11,s12,s13,s14,s15,s16,s17,s18,s19,-⟩:=H1.out.stw.reads;obtain ⟨e0,e1,e2,e3,e4,e5,e6,e7,e8,e9,e10,e11,e12,e13,e14,-⟩:=H1.out.chg.reads;obtain ⟨o0,o1,o2,o3,o4,o5,o6,o7⟩:=rd8 (w:=w1) hX;clear H AE hO hX;have AK:=zh (zlP (dc:=dc) (mc:=mc) H1.out HX.out.2.2.1 HX.out.2.2.2 (hR.vol ud) (hR.place ud) ⟨hk,hR.count ud⟩);unfold opA at AK;rw [hk] at AK;replace o0:=show w1.cell? ⟨w.heap.size,0,none⟩=some (.int .i64 o.k) from o0;rw [hk] at o0;clear hk hR Al CD s0 s1 s2 s3 s4 s5 s6 s7 s8 s9 s10 s11 s12 s13 s14 s15 s16 s17 s18 s19 e0 e1 e2 e3 e4 e5 e6 e7 e8 e9 e10 e11 e12 e13 e14;unfold opA at *;go_in;go_upto_region 1 with fail;rw [<- Ab];clear Ab;generalize hg:(zaz st.c st.l sq o)=ev at *;clear hg;go_wp2_with fail;refine AK.out.mono ?_;rintro r w3 hE;unfold EvE at hE;obtain ⟨rfl,hE⟩:=hE;have HG:=zh hE;clear hE AK;go_wp2_with fail;go_ret;unfold EvE;exact ⟨ubj,HG.out⟩
theorem ziP {w0 w:World} {p:Nat} {h:Ch} {a:StA} {cf:Cfg} {st:PS} {nb k:Nat} {Q:Nat->Prop} {x sq:Nat} {o:PO} {da:Option Addr} {dn dc:Nat} {ma:Option Addr} {mn mc:Nat} (H:EvC w0 w p h a cf st nb k Q x h (Chg.nil st.c sq) (.slice none 0 0) []) (AE:sq=st.seq+1) (hO:OpM w o da dn ma mn) (hR:PoR o) (hk:o.k=10):
 Calls Tryz.prog 26 #[.pointer (some ⟨p,0,none⟩), .pointer (some ⟨x,0,none⟩), .agg (opA o da dn dc ma mn mc)] w (EvE w0 Q x (zcO st.c st.l sq o)):=by
 obtain ⟨w1,Ab,hX,H1,Cm,HX,AU⟩:=evS H AE hO dc mc;have Al:=zh (fun (W:World) (hW:Below w1.heap.size w1 W)=> (H1.out.stw.below hW).reads);have CD:=zh (fun (W:World) (hW:Below w1.heap.size w1 W)=> (H1.out.chg.below hW).reads);obtain ⟨s0,s1,s2,s3,s4,s5,s6,s7,s8,s9,s10,s11,s12,s13,s14,s15,s16,s17,s18,s19,-⟩:=H1.out.stw.reads;obtain ⟨e0,e1,e2,e3,e4,e5,e6,e7,e8,e9,e10,e11,e12,e13,e14,-⟩:=H1.out.chg.reads;obtain ⟨o0,o1,o2,o3,o4,o5,o6,o7⟩:=rd8 (w:=w1) hX;clear H AE hO hX;have AK:=zh (zg1 (dc:=dc) (mc:=mc) H1.out HX.out.2.2.1 HX.out.2.2.2 (hR.vol ud));unfold opA at AK;rw [hk] at AK;replace o0:=show w1.cell? ⟨w.heap.size,0,none⟩=some (.int .i64 o.k) from o0;rw [hk] at o0;clear hk hR Al CD s0 s1 s2 s3 s4 s5 s6 s7 s8 s9 s10 s11 s12 s13 s14 s15 s16 s17 s18 s19 e0 e1 e2 e3 e4 e5 e6 e7 e8 e9 e10 e11 e12 e13 e14;unfold opA at *;go_in;go_upto_region 1 with fail;rw [<- Ab];clear Ab;generalize hg:(zcO st.c st.l sq o)=ev at *;clear hg;go_wp2_with fail;refine AK.out.mono ?_;rintro r w3 hE;unfold EvE at hE;obtain ⟨rfl,hE⟩:=hE;have HG:=zh hE;clear hE AK;go_wp2_with fail;go_ret;unfold EvE;exact ⟨ubj,HG.out⟩
theorem ziQ {w0 w:World} {p:Nat} {h:Ch} {a:StA} {cf:Cfg} {st:PS} {nb k:Nat} {Q:Nat->Prop} {x sq:Nat} {o:PO} {da:Option Addr} {dn dc:Nat} {ma:Option Addr} {mn mc:Nat} (H:EvC w0 w p h a cf st nb k Q x h (Chg.nil st.c sq) (.slice none 0 0) []) (AE:sq=st.seq+1) (hO:OpM w o da dn ma mn) (hR:PoR o) (hk:o.k=11):
 Calls Tryz.prog 26 #[.pointer (some ⟨p,0,none⟩), .pointer (some ⟨x,0,none⟩), .agg (opA o da dn dc ma mn mc)] w (EvE w0 Q x (zcO st.c st.l sq o)):=by
 obtain ⟨w1,Ab,hX,H1,Cm,HX,AU⟩:=evS H AE hO dc mc;have Al:=zh (fun (W:World) (hW:Below w1.heap.size w1 W)=> (H1.out.stw.below hW).reads);have CD:=zh (fun (W:World) (hW:Below w1.heap.size w1 W)=> (H1.out.chg.below hW).reads);obtain ⟨s0,s1,s2,s3,s4,s5,s6,s7,s8,s9,s10,s11,s12,s13,s14,s15,s16,s17,s18,s19,-⟩:=H1.out.stw.reads;obtain ⟨e0,e1,e2,e3,e4,e5,e6,e7,e8,e9,e10,e11,e12,e13,e14,-⟩:=H1.out.chg.reads;obtain ⟨o0,o1,o2,o3,o4,o5,o6,o7⟩:=rd8 (w:=w1) hX;clear H AE hO hX;have AK:=zh (zg1 (dc:=dc) (mc:=mc) H1.out HX.out.2.2.1 HX.out.2.2.2 (hR.vol ud));unfold opA at AK;rw [hk] at AK;replace o0:=show w1.cell? ⟨w.heap.size,0,none⟩=some (.int .i64 o.k) from o0;rw [hk] at o0;clear hk hR Al CD s0 s1 s2 s3 s4 s5 s6 s7 s8 s9 s10 s11 s12 s13 s14 s15 s16 s17 s18 s19 e0 e1 e2 e3 e4 e5 e6 e7 e8 e9 e10 e11 e12 e13 e14;unfold opA at *;go_in;go_upto_region 1 with fail;rw [<- Ab];clear Ab;generalize hg:(zcO st.c st.l sq o)=ev at *;clear hg;go_wp2_with fail;refine AK.out.mono ?_;rintro r w3 hE;unfold EvE at hE;obtain ⟨rfl,hE⟩:=hE;have HG:=zh hE;clear hE AK;go_wp2_with fail;go_ret;unfold EvE;exact ⟨ubj,HG.out⟩
theorem ziR {w0 w:World} {p:Nat} {h:Ch} {a:StA} {cf:Cfg} {st:PS} {nb k:Nat} {Q:Nat->Prop} {x sq:Nat} {o:PO} {da:Option Addr} {dn dc:Nat} {ma:Option Addr} {mn mc:Nat} (H:EvC w0 w p h a cf st nb k Q x h (Chg.nil st.c sq) (.slice none 0 0) []) (AE:sq=st.seq+1) (hO:OpM w o da dn ma mn) (hR:PoR o) (hk:o.k=12):
 Calls Tryz.prog 26 #[.pointer (some ⟨p,0,none⟩), .pointer (some ⟨x,0,none⟩), .agg (opA o da dn dc ma mn mc)] w (EvE w0 Q x (zcO st.c st.l sq o)):=by
 obtain ⟨w1,Ab,hX,H1,Cm,HX,AU⟩:=evS H AE hO dc mc;have Al:=zh (fun (W:World) (hW:Below w1.heap.size w1 W)=> (H1.out.stw.below hW).reads);have CD:=zh (fun (W:World) (hW:Below w1.heap.size w1 W)=> (H1.out.chg.below hW).reads);obtain ⟨s0,s1,s2,s3,s4,s5,s6,s7,s8,s9,s10,s11,s12,s13,s14,s15,s16,s17,s18,s19,-⟩:=H1.out.stw.reads;obtain ⟨e0,e1,e2,e3,e4,e5,e6,e7,e8,e9,e10,e11,e12,e13,e14,-⟩:=H1.out.chg.reads;obtain ⟨o0,o1,o2,o3,o4,o5,o6,o7⟩:=rd8 (w:=w1) hX;clear H AE hO hX;have AK:=zh (zg1 (dc:=dc) (mc:=mc) H1.out HX.out.2.2.1 HX.out.2.2.2 (hR.vol ud));unfold opA at AK;rw [hk] at AK;replace o0:=show w1.cell? ⟨w.heap.size,0,none⟩=some (.int .i64 o.k) from o0;rw [hk] at o0;clear hk hR Al CD s0 s1 s2 s3 s4 s5 s6 s7 s8 s9 s10 s11 s12 s13 s14 s15 s16 s17 s18 s19 e0 e1 e2 e3 e4 e5 e6 e7 e8 e9 e10 e11 e12 e13 e14;unfold opA at *;go_in;go_upto_region 1 with fail;rw [<- Ab];clear Ab;generalize hg:(zcO st.c st.l sq o)=ev at *;clear hg;go_wp2_with fail;refine AK.out.mono ?_;rintro r w3 hE;unfold EvE at hE;obtain ⟨rfl,hE⟩:=hE;have HG:=zh hE;clear hE AK;go_wp2_with fail;go_ret;unfold EvE;exact ⟨ubj,HG.out⟩
theorem ziS {w0 w:World} {p:Nat} {h:Ch} {a:StA} {cf:Cfg} {st:PS} {nb k:Nat} {Q:Nat->Prop} {x sq:Nat} {o:PO} {da:Option Addr} {dn dc:Nat} {ma:Option Addr} {mn mc:Nat} (H:EvC w0 w p h a cf st nb k Q x h (Chg.nil st.c sq) (.slice none 0 0) []) (AE:sq=st.seq+1) (hO:OpM w o da dn ma mn) (hR:PoR o) (hk:o.k=13):
 Calls Tryz.prog 26 #[.pointer (some ⟨p,0,none⟩), .pointer (some ⟨x,0,none⟩), .agg (opA o da dn dc ma mn mc)] w (EvE w0 Q x (zcW st.c st.l sq o)):=by
 obtain ⟨w1,Ab,hX,H1,Cm,HX,AU⟩:=evS H AE hO dc mc;have Al:=zh (fun (W:World) (hW:Below w1.heap.size w1 W)=> (H1.out.stw.below hW).reads);have CD:=zh (fun (W:World) (hW:Below w1.heap.size w1 W)=> (H1.out.chg.below hW).reads);obtain ⟨s0,s1,s2,s3,s4,s5,s6,s7,s8,s9,s10,s11,s12,s13,s14,s15,s16,s17,s18,s19,-⟩:=H1.out.stw.reads;obtain ⟨e0,e1,e2,e3,e4,e5,e6,e7,e8,e9,e10,e11,e12,e13,e14,-⟩:=H1.out.chg.reads;obtain ⟨o0,o1,o2,o3,o4,o5,o6,o7⟩:=rd8 (w:=w1) hX;clear H AE hO hX;have AK:=zh (znd (dc:=dc) (mc:=mc) H1.out HX.out.2.2.1 HX.out.2.2.2 (hR.vol ud));unfold opA at AK;rw [hk] at AK;replace o0:=show w1.cell? ⟨w.heap.size,0,none⟩=some (.int .i64 o.k) from o0;rw [hk] at o0;clear hk hR Al CD s0 s1 s2 s3 s4 s5 s6 s7 s8 s9 s10 s11 s12 s13 s14 s15 s16 s17 s18 s19 e0 e1 e2 e3 e4 e5 e6 e7 e8 e9 e10 e11 e12 e13 e14;unfold opA at *;go_in;go_upto_region 1 with fail;rw [<- Ab];clear Ab;generalize hg:(zcW st.c st.l sq o)=ev at *;clear hg;go_wp2_with fail;refine AK.out.mono ?_;rintro r w3 hE;unfold EvE at hE;obtain ⟨rfl,hE⟩:=hE;have HG:=zh hE;clear hE AK;go_wp2_with fail;go_ret;unfold EvE;exact ⟨ubj,HG.out⟩
end
section
open Go.RowKit
theorem zjA (ps:List Nat) (fl:Nat) (l:List Mk) {i:Nat} {x:Mk} (hx:l[i]? =some x):zaZ ps fl (l.take (i+1))=zaZ ps fl (l.take i)++if fl<=x.1\/x.1 ∈ ps then [x] else []:=by
 unfold zaZ;rw [List.take_add_one,hx,List.filter_append]
 by_cases h:fl<=x.1\/x.1 ∈ ps
 ·rw [if_pos h];simp [h]
 rw [if_neg h];simp only [Option.toList_some];rw [List.filter_cons_of_neg]
 ·simp
 simpa using h
theorem zlL {w:World} {a:Option Addr} {n c:Nat} {l:List Mk} (h:zM zbZ 2 w a n l) (hn:n<=1000) {a2:Option Addr} {n2 c2:Nat} {ps:List Nat} (hp:zM zb0 1 w a2 n2 ps) (BH:n2<=1000000) (fl:Nat):
 Calls Tryz.prog 102 #[.slice a n c, .slice a2 n2 c2, .int .u64 (fl:Int)] w fun e w'=> ∃v,e= .returned v/\zK zbZ 2 129 w' w.heap.size v (zaZ ps fl l)/\Below w.heap.size w w':=by
 have hl:=h.1;have H:=zh h;have HP:=zh hp;have HL:=zh hl;clear h hp hl;go_in;go_wp2_with fail
 go_loopw [7,12] (fun u7 u wr=> ∃i:Nat,i<=n/\u= .int .i64 i/\zK zbZ 2 129 wr w.heap.size u7 (zaZ ps fl (l.take i))/\Below w.heap.size w wr) (fun _ u _=> n - (intOf u).toNat)
 case atStart=> exact ⟨0,ud,rfl,World.ownsRow_nil _ _ _ _,Below.refl _ _⟩
 case round=>
  obtain ⟨i,hi,rfl,ho,hb⟩:=hrel;have HB:=zh hb
  by_cases hlt:i < n
  ·have Bb:(i:Int) < (n:Int):=ud;have AD:(0:Int)<=(i:Int):=ud;obtain ⟨x,hx⟩:∃x,l[i]? =some x:=⟨_,ze uj⟩;obtain ⟨b,o,rfl,hc⟩:=(H.out.below hb zl).2 i x hx;have c0:=hc 0 _ rfl;have c1:=hc 1 _ rfl;simp only [Nat.add_zero] at c0;have Aa:=hb.alloc hb.size (.cells #[.int .u64 (x.1:Int), .int .u64 (x.2:Int)] 129);have Bo:=ho.alloc (.cells #[.int .u64 (x.1:Int), .int .u64 (x.2:Int)] 129);have EF:(zaZ ps fl (l.take i)).length<=100000000:=by
        have h1:(zaZ ps fl (l.take i)).length<=(l.take i).length:=List.length_filter_le _ _;rw [List.length_take] at h1
        omega
   obtain ⟨v',w6,hr,Bv,hg⟩:=zK.pushG zR uf zcv Tryz.underlying52 zfn rfl uf Bo x EF Aa.size;have AT:=Below.own Aa Bo hg zl Aa.size;have HF:=zh (zn Bv AT);have LJ:=zh (zn Bo Aa);have HS:=zh (zjA ps fl l hx);have HC:=zh (zes (c:=c2) (HP.out.below Aa zl) BH x.1);rw [World.alloc_size] at hr;unfold zbZ at hr;clear hx hc hb Aa ho Bo EF Bv AT hg
   by_cases h1:fl<=x.1
   ·have i1:(fl:Int)<=(x.1:Int):=ud;have Bl:=zh (show zaZ ps fl (l.take (i+1))=zaZ ps fl (l.take i)++ [x] by rw [HS.out,if_pos (.inl h1)])
    clear h1
    go_wp2_with (at_builtin;refine za rfl _ _ _ rfl hr ?_)
    go_roundw
    case rel=> exact ⟨i+1,ud,by go_num,by rw [Bl.out];exact HF.out.1,HF.out.2⟩
    case measure=> simp [intOf];omega
   have i1:¬(fl:Int)<=(x.1:Int):=ud
   by_cases h2:x.1 ∈ ps
   ·rw [decide_eq_true h2] at HC;have Bl:=zh (show zaZ ps fl (l.take (i+1))=zaZ ps fl (l.take i)++ [x] by rw [HS.out,if_pos (.inr h2)])
    clear h1 h2;go_wp2_with fail;refine HC.out.mono ?_;rintro e w5 ⟨rfl,rfl⟩
    go_wp2_with (at_builtin;refine za rfl _ _ _ rfl hr ?_)
    go_roundw
    case rel=> exact ⟨i+1,ud,by go_num,by rw [Bl.out];exact HF.out.1,HF.out.2⟩
    case measure=> simp [intOf];omega
   rw [decide_eq_false h2] at HC;have Bl:=zh (show zaZ ps fl (l.take (i+1))=zaZ ps fl (l.take i) by rw [HS.out,if_neg (fun h=> h.elim h1 h2),List.append_nil])
   clear h1 h2;go_wp2_with fail;refine HC.out.mono ?_;rintro e w5 ⟨rfl,rfl⟩;go_wp2_with fail
   go_roundw
   case rel=> exact ⟨i+1,ud,by go_num,by rw [Bl.out];exact LJ.out.1,LJ.out.2⟩
   case measure=> simp [intOf];omega
  obtain rfl:n=i:=ud;rw [zk uj] at ho;have HF:=zh ho;clear ho hb;go_wp2_with fail;go_ret;exact ⟨_,rfl,HF.out,HB.out⟩
def szB (ps:List Nat) (fl:Nat) (m:Mk):Option Mk->Bool
 | none=> true
 | some x=> decide (fl < x.1) || ps.any fun p=> decide (m.1<=p) && decide (p < x.1)
def zfZ (ps:List Nat) (fl:Nat) (l:List Mk):Nat->List Mk
 | 0=> []
 | i+1=> zfZ ps fl l i++(match l[i]? with
   | some m=> if szB ps fl m l[i+1]? =true then [m] else []
   | none=> [])
theorem zil (ps:List Nat) (fl:Nat) (m:Mk) (l:List Mk):∀i,zfZ ps fl (m::l) (i+1)=(if szB ps fl m l[0]? =true then [m] else [])++zfZ ps fl l i
 | 0=> by simp [zfZ]
 | i+1=> by
   have ih:=zil ps fl m l i;rw [zfZ,ih,zfZ,List.append_assoc];simp only [List.getElem?_cons_succ]
theorem zkk (ps:List Nat) (fl:Nat):∀l:List Mk,zfZ ps fl l l.length=za4 ps fl l
 | []=> rfl
 | [m]=> rfl
 | m ::x::l=> by
   rw [List.length_cons,zil,zkk ps fl (x::l),za4];have:szB ps fl m (x::l)[0]? =true↔(fl < x.1\/∃p ∈ ps,m.1<=p/\p < x.1):=by
     simp [szB]
   simp only [this]
   split <;> rfl
theorem zns (ps:List Nat) (fl:Nat) (l:List Mk) {i:Nat} {m:Mk} (hm:l[i]? =some m):zfZ ps fl l (i+1)=zfZ ps fl l i++if szB ps fl m l[i+1]? =true then [m] else []:=by
 rw [zfZ,hm]
theorem zkl (ps:List Nat) (fl:Nat) (l:List Mk):∀i,(zfZ ps fl l i).length<=i
 | 0=> zl
 | i+1=> by
   have:=zkl ps fl l i;rw [zfZ,List.length_append]
   cases l[i]? with
   | none=> simp;omega
   | some m=> simp only;split <;> simp <;> omega
theorem zjH {α:Type} (f:α->Bool) (l:List α) {j:Nat} {p:α} (hp:l[j]? =some p):(l.take (j+1)).any f=((l.take j).any f || f p):=by
 rw [List.take_add_one,hp,List.any_append];simp
theorem zlH {w:World} {a:Option Addr} {n c:Nat} {l:List Mk} (h:zM zbZ 2 w a n l) (hn:n<=1000) {a2:Option Addr} {n2 c2:Nat} {ps:List Nat} (hp:zM zb0 1 w a2 n2 ps) (BH:n2<=1000000) (fl:Nat):
 Calls Tryz.prog 104 #[.slice a n c, .slice a2 n2 c2, .int .u64 (fl:Int)] w fun e w'=> ∃v,e= .returned v/\zK zbZ 2 129 w' w.heap.size v (za4 ps fl l)/\Below w.heap.size w w':=by
 have hl:=h.1;have H:=zh h;have HP:=zh hp;have HL:=zh (zn hl hp.1);clear h hp hl;go_in;go_wp2_with fail
 go_loopw [7,15] (fun u7 u wr=> ∃i:Nat,i<=n/\u= .int .i64 i/\zK zbZ 2 129 wr w.heap.size u7 (zfZ ps fl l i)/\Below w.heap.size w wr) (fun _ u _=> n - (intOf u).toNat)
 case atStart=> exact ⟨0,ud,rfl,World.ownsRow_nil _ _ _ _,Below.refl _ _⟩
 case round=>
  obtain ⟨i,hi,rfl,ho,hb⟩:=hrel;have HB:=zh hb
  by_cases hlt:i < n
  ·have Bb:(i:Int) < (n:Int):=ud;have AD:(0:Int)<=(i:Int):=ud;obtain ⟨x,hx⟩:∃x,l[i]? =some x:=⟨_,ze uj⟩;obtain ⟨b,o,rfl,hc⟩:=(H.out.below hb zl).2 i x hx;have c0:=hc 0 _ rfl;have c1:=hc 1 _ rfl;simp only [Nat.add_zero] at c0;obtain ⟨wv,Hb⟩:∃wv,wv=wr.alloc (.cells #[.int .u64 (x.1:Int), .int .u64 (x.2:Int)] 129):=⟨_,rfl⟩;have Aa:Below w.heap.size w wv:=by rw [Hb];exact hb.alloc hb.size _
   have Bo:zK zbZ 2 129 wv w.heap.size u7 (zfZ ps fl l i):=by rw [Hb];exact ho.alloc _
   have Zr:wv.heap[wr.heap.size]? =some (.cells #[.int .u64 (x.1:Int), .int .u64 (x.2:Int)] 129 (0,0)):=by rw [Hb];exact heap_alloc_new wr _
   have v0:=cell_of_row wv _ 0 _ _ _ Zr;have v1:=cell_of_row wv _ 1 _ _ _ Zr;have v0':wv.cell? ⟨wr.heap.size,0,none⟩=some (.int .u64 (x.1:Int)):=v0;have v1':wv.cell? ⟨wr.heap.size,1,none⟩=some (.int .u64 (x.2:Int)):=v1;have M2:wv.heap.size=wr.heap.size+1:=by rw [Hb,World.alloc_size]
   have EF:(zfZ ps fl l i).length<=100000000:=by have:=zkl ps fl l i;omega
   obtain ⟨v',w6,hr,Bv,hg⟩:=zK.pushG zR uf zcv Tryz.underlying52 zfn rfl uf Bo x EF Aa.size;have AT:=Below.own Aa Bo hg zl Aa.size;have HF:=zh (zn Bv AT);have LJ:=zh (zn Bo Aa);have HS:=zh (zns ps fl l hx);have HV:=zh (zn Aa M2);unfold zbZ at hr;have bg:IntKind.i64.wrap ((i:Int)+1)=(i:Int)+1:=zw _ ud;clear hx hc hb Aa ho Bo EF Bv AT hg v0 v1 Zr M2
   by_cases AY:i+1=n
   ·have i1:((i:Int)+1==(n:Int))=true:=by rw [<- AY];simp
    have Bl:=zh (show zfZ ps fl l (i+1)=zfZ ps fl l i++ [x] by
     rw [HS.out,List.getElem?_eq_none uj];rfl)
    go_upto_region 5 with fail;rw [<- Hb];clear Hb;go_wp2_with fail;rename World=> wo
    go_loop [10,37] (fun u10 u37=> ∃j:Nat,j<=n2/\u37= .int .i64 j/\u10= .bool true) (fun _ u37=> n2 - (intOf u37).toNat)
    case atStart=> exact ⟨0,ud,rfl,rfl⟩
    case round=>
     obtain ⟨j,hj,rfl,rfl⟩:=hrel
     by_cases EC:j < n2
     ·have j1:(j:Int) < (n2:Int):=ud;have j0:(0:Int)<=(j:Int):=ud;obtain ⟨p,hp⟩:∃p,ps[j]? =some p:=⟨_,ze uj⟩;obtain ⟨pb,po,rfl,KR⟩:=(HP.out.below HV.out.1 zl).2 j p hp;have p0:=KR 0 _ rfl;simp only [Nat.mul_one,Nat.add_zero] at p0;clear hp KR;go_wp2_with fail
      go_round
      case rel=> exact ⟨j+1,ud,by go_num,rfl⟩
      case measure=> simp [intOf];omega
     have j1:¬(j:Int) < (n2:Int):=ud
     go_wp2_with (at_builtin;refine za rfl _ _ _ rfl hr ?_)
     go_roundw
     case rel=> exact ⟨i+1,ud,by go_num,by rw [Bl.out];exact HF.out.1,HF.out.2⟩
     case measure=> simp [intOf];omega
   have i1:((i:Int)+1==(n:Int))=false:=by rw [beq_eq_false_iff_ne];omega
   have i2:(i:Int)+1 < (n:Int):=ud;have i3:(0:Int)<=(i:Int)+1:=ud;obtain ⟨y,hy⟩:∃y,l[i+1]? =some y:=⟨_,ze uj⟩;have y0:wv.cell? ⟨b,o+(i+1) * 2,none⟩=some (.int .u64 (y.1:Int)):=by
    obtain ⟨b',o',e,hc⟩:=(H.out.below HV.out.1 zl).2 (i+1) y hy;simp only [Option.some.injEq,Addr.mk.injEq,and_true] at e;obtain ⟨rfl,rfl⟩:=e;exact hc 0 _ rfl
   have Ap:=zh (show szB ps fl x l[i+1]? =(decide (fl < y.1) || ps.any fun p=> decide (x.1<=p) && decide (p < y.1)) by rw [hy];rfl)
   clear hy AY
   by_cases Yf:fl < y.1
   ·have i4:(fl:Int) < (y.1:Int):=ud;have Bl:=zh (show zfZ ps fl l (i+1)=zfZ ps fl l i++ [x] by
     rw [HS.out,Ap.out,decide_eq_true Yf];rfl)
    go_upto_region 5 with fail;rw [<- Hb];clear Hb;go_wp2_with fail;rename World=> wo
    go_loop [10,37] (fun u10 u37=> ∃j:Nat,j<=n2/\u37= .int .i64 j/\u10= .bool true) (fun _ u37=> n2 - (intOf u37).toNat)
    case atStart=> exact ⟨0,ud,rfl,rfl⟩
    case round=>
     obtain ⟨j,hj,rfl,rfl⟩:=hrel
     by_cases EC:j < n2
     ·have j1:(j:Int) < (n2:Int):=ud;have j0:(0:Int)<=(j:Int):=ud;obtain ⟨p,hp⟩:∃p,ps[j]? =some p:=⟨_,ze uj⟩;obtain ⟨pb,po,rfl,KR⟩:=(HP.out.below HV.out.1 zl).2 j p hp;have p0:=KR 0 _ rfl;simp only [Nat.mul_one,Nat.add_zero] at p0;clear hp KR;go_wp2_with fail
      go_round
      case rel=> exact ⟨j+1,ud,by go_num,rfl⟩
      case measure=> simp [intOf];omega
     have j1:¬(j:Int) < (n2:Int):=ud
     go_wp2_with (at_builtin;refine za rfl _ _ _ rfl hr ?_)
     go_roundw
     case rel=> exact ⟨i+1,ud,by go_num,by rw [Bl.out];exact HF.out.1,HF.out.2⟩
     case measure=> simp [intOf];omega
   have i4:¬(fl:Int) < (y.1:Int):=ud;have Bl:=zh (show zfZ ps fl l (i+1)=zfZ ps fl l i++if (ps.any fun p=> decide (x.1<=p) && decide (p < y.1))=true then [x] else [] by
    rw [HS.out,Ap.out,decide_eq_false Yf,Bool.false_or])
   clear Yf;go_upto_region 5 with fail;rw [<- Hb];clear Hb;go_wp2_with fail;rename World=> wo
   go_loop [10,37] (fun u10 u37=> ∃j:Nat,j<=n2/\u37= .int .i64 j/\u10= .bool ((ps.take j).any fun p=> decide (x.1<=p) && decide (p < y.1))) (fun _ u37=> n2 - (intOf u37).toNat)
   case atStart=> exact ⟨0,ud,rfl,rfl⟩
   case round=>
    obtain ⟨j,hj,rfl,rfl⟩:=hrel
    by_cases EC:j < n2
    ·have j1:(j:Int) < (n2:Int):=ud;have j0:(0:Int)<=(j:Int):=ud;obtain ⟨p,hp⟩:∃p,ps[j]? =some p:=⟨_,ze uj⟩;obtain ⟨pb,po,rfl,KR⟩:=(HP.out.below HV.out.1 zl).2 j p hp;have p0:=KR 0 _ rfl;simp only [Nat.mul_one,Nat.add_zero] at p0;have HA:=zh (zjH (fun p=> decide (x.1<=p) && decide (p < y.1)) ps hp);clear hp KR
     cases hk:(ps.take j).any fun p=> decide (x.1<=p) && decide (p < y.1) with
     | true=>
       rw [hk] at HA;clear hk;go_wp2_with fail
       go_round
       case rel=> exact ⟨j+1,ud,by go_num,by rw [HA.out];rfl⟩
       case measure=> simp [intOf];omega
     | false=>
       rw [hk] at HA;clear hk
       by_cases q1:x.1<=p
       ·have q1':(x.1:Int)<=(p:Int):=ud
        by_cases q2:p < y.1
        ·have q2':(p:Int) < (y.1:Int):=ud;have EH:=zh (show ((ps.take (j+1)).any fun p=> decide (x.1<=p) && decide (p < y.1))=true by rw [HA.out];simp [q1,q2])
         clear q1 q2;go_wp2_with fail
         go_round
         case rel=> exact ⟨j+1,ud,by go_num,by rw [EH.out]⟩
         case measure=> simp [intOf];omega
        have q2':¬(p:Int) < (y.1:Int):=ud;have EH:=zh (show ((ps.take (j+1)).any fun p=> decide (x.1<=p) && decide (p < y.1))=false by rw [HA.out];simp [q2])
        clear q1 q2;go_wp2_with fail
        go_round
        case rel=> exact ⟨j+1,ud,by go_num,by rw [EH.out]⟩
        case measure=> simp [intOf];omega
       have q1':¬(x.1:Int)<=(p:Int):=ud;have EH:=zh (show ((ps.take (j+1)).any fun p=> decide (x.1<=p) && decide (p < y.1))=false by rw [HA.out];simp [q1])
       clear q1;go_wp2_with fail
       go_round
       case rel=> exact ⟨j+1,ud,by go_num,by rw [EH.out]⟩
       case measure=> simp [intOf];omega
    have kO:j=n2:=ud;have j1:¬(j:Int) < (n2:Int):=ud;have JM:ps.take j=ps:=zk uj;rw [JM];clear JM
    cases hk:ps.any fun p=> decide (x.1<=p) && decide (p < y.1) with
    | true=>
      rw [hk,if_pos rfl] at Bl;clear hk
      go_wp2_with (at_builtin;refine za rfl _ _ _ rfl hr ?_)
      go_roundw
      case rel=> exact ⟨i+1,ud,by go_num,by rw [Bl.out];exact HF.out.1,HF.out.2⟩
      case measure=> simp [intOf];omega
    | false=>
      rw [hk,if_neg uh,List.append_nil] at Bl;clear hk;go_wp2_with fail
      go_roundw
      case rel=> exact ⟨i+1,ud,by go_num,by rw [Bl.out];exact LJ.out.1,LJ.out.2⟩
      case measure=> simp [intOf];omega
  obtain rfl:n=i:=ud;rw [show n=l.length from HL.out.1.symm,zkk] at ho;have HF:=zh ho;clear ho hb;go_wp2_with fail;go_ret;exact ⟨_,rfl,HF.out,HB.out⟩
end
end Go.Proofs.YtaoceecfjlkmdaaGreat
