/- The walk of script.Text. Conditions: those of the theorem. Printed by wip/mktext.py. -/
import Derived.Test.YtljbehndnledpaaBuilder
import Derived.Test.YtljbehndnledpaaSame29
import Derived.Test.YtljbehndnledpaaScriptLinesLaw
namespace Go.Proofs.Ytljbehndnledpaa
open Go.RowKit

/-- Operations as a text. -/
def textL (l : List PO) : List UInt8 := l.flatMap fun o => if o.line = [] then [] else o.line ++ [10]

theorem builder_below {w w' : World} {B b C : Nat} {bs : List Value} (h : Lib.IsBuilder 195 5 B b bs w) (hb : Below C w w') (hC : w.heap.size ≤ C) : Lib.IsBuilder 195 5 B b bs w' := by
  rcases h with ⟨h1, v, h2, h3, h4⟩ | ⟨h1, v, h2, h3, h4⟩
  · exact .inl ⟨h1, v, heap_below h2 hb hC, ownsRow_below h3 hb hC, h4⟩
  · exact .inr ⟨h1, v, heap_below h2 hb hC, ownsRow_below h3 hb hC, h4⟩
theorem builder_new (w : World) : Lib.IsBuilder 195 5 w.heap.size w.heap.size (Lib.byteCells []) (w.alloc (.cells #[.pointer none, .slice none 0 0] 195)) :=
  .inl ⟨Nat.le_refl _, .slice none 0 0, heap_alloc_new _ _, World.ownsRow_nil _ _ _ _, by simp [Value.ownBlock]⟩

set_option maxRecDepth 100000 in
set_option maxHeartbeats 8000000 in
theorem text_any (a : Option Addr) (n c : Nat) (l : List PO) (w : World) (h : Ops w a n l) (hn : n ≤ 1000) (hl : ∀ q ∈ l, q.d.length ≤ 1000000000 ∧ q.m.length ≤ 1000000000 ∧ 0 ≤ q.pt ∧ q.pt < 18446744073709551616) :
    Calls Try.prog 61 #[.slice a n c] w fun e w' => e = .returned (.string (mkS (textL l))) ∧ Below w.heap.size w w' := by
  obtain ⟨T, hT⟩ : ∃ T, T = textL l := ⟨_, rfl⟩
  rw [← hT]
  have HT := Lib.hid hT
  have HLL := Lib.hid h.1
  have H := Lib.hid h
  have HL := Lib.hid hl
  have hB0 := builder_new w
  have hb0 : Below w.heap.size w (w.alloc (.cells #[.pointer none, .slice none 0 0] 195)) := (Below.refl _ _).alloc (Nat.le_refl _) _
  have HB0 := Lib.hid hB0
  clear h hl hT hB0
  go_enter Try.func61, Try.ntmps61
  go_wp2_with fail
  generalize w.alloc (.cells #[.pointer none, .slice none 0 0] 195) = w1 at *
  go_loopw [9] (fun u9 wr => ∃ i : Nat, i ≤ n ∧ u9 = .int .i64 i ∧ Lib.IsBuilder 195 5 w.heap.size w.heap.size (Lib.byteCells (textL (l.take i))) wr ∧ (textL (l.take i)).length ≤ 2001 * i ∧ Below w.heap.size w wr) (fun u9 _ => n - (intOf u9).toNat)
  case atStart => exact ⟨0, by omega, rfl, HB0.out, by simp [textL], hb0⟩
  case round =>
    obtain ⟨i, hi, rfl, hbd, hsz, hbw⟩ := hrel
    by_cases hlt : i < n
    · obtain ⟨q, hq⟩ : ∃ q, l[i]? = some q := ⟨_, List.getElem?_eq_getElem (by rw [HLL.out]; exact hlt)⟩
      obtain ⟨hqd, hqm, hp0, hp1⟩ := HL.out q (List.mem_of_getElem? hq)
      obtain ⟨b1, p1, da, ma, dc, mc, rfl, hs1, hd1, hm1⟩ := (H.out.below hbw (Nat.le_refl _)).cells i q hq
      obtain ⟨c0, c1, c2, c3, c4, c5, c6, c7⟩ := hs1
      have hk : Below wr.heap.size wr (wr.alloc (.cells #[.int .i64 q.k, .int .i64 q.v, .int .i64 q.i, .int .i64 q.b, .int .i64 q.n, .int .u64 q.pt, .slice da q.d.length dc, .slice ma q.m.length mc] 80)) := (Below.refl _ _).alloc (Nat.le_refl _) _
      have hline := line_any q.k q.v q.i q.b q.n q.pt q.d q.m da ma q.d.length dc q.m.length mc (wr.alloc (.cells #[.int .i64 q.k, .int .i64 q.v, .int .i64 q.i, .int .i64 q.b, .int .i64 q.n, .int .u64 q.pt, .slice da q.d.length dc, .slice ma q.m.length mc] 80)) (Is.below hd1 hk (Nat.le_refl _)) (Is.below hm1 hk (Nat.le_refl _)) hqd hqm hp0 hp1
      have hls := line_size q hp0 hp1
      have hline : Calls Try.prog 50 #[.agg #[.int .i64 q.k, .int .i64 q.v, .int .i64 q.i, .int .i64 q.b, .int .i64 q.n, .int .u64 q.pt, .slice da q.d.length dc, .slice ma q.m.length mc]] (wr.alloc (.cells #[.int .i64 q.k, .int .i64 q.v, .int .i64 q.i, .int .i64 q.b, .int .i64 q.n, .int .u64 q.pt, .slice da q.d.length dc, .slice ma q.m.length mc] 80)) fun e w' => e = .returned (.string (mkS q.line)) ∧ Below (wr.alloc (.cells #[.int .i64 q.k, .int .i64 q.v, .int .i64 q.i, .int .i64 q.b, .int .i64 q.n, .int .u64 q.pt, .slice da q.d.length dc, .slice ma q.m.length mc] 80)).heap.size (wr.alloc (.cells #[.int .i64 q.k, .int .i64 q.v, .int .i64 q.i, .int .i64 q.b, .int .i64 q.n, .int .u64 q.pt, .slice da q.d.length dc, .slice ma q.m.length mc] 80)) w' := hline
      have hnx : textL (l.take (i + 1)) = textL (l.take i) ++ (if q.line = [] then [] else q.line ++ [10]) := by
        rw [List.take_add_one, hq]
        simp [textL, List.flatMap_append]
      have HB := Lib.hid (builder_below hbd hk (Nat.le_refl _))
      have HLN := Lib.hid hline
      have HSZ := Lib.hid hsz
      generalize q.line = N at *
      generalize textL (l.take i) = S at *
      have hi0 : (0 : Int) ≤ (i : Int) := by omega
      have hi1 : (i : Int) < (n : Int) := by omega
      by_cases hN : N = []
      · rw [if_pos hN, List.append_nil] at hnx
        subst hN
        have HNX := Lib.hid hnx
        clear hnx hq hd1 hm1 hline hbd hsz
        go_wp2_with fail
        generalize wr.alloc (.cells #[.int .i64 q.k, .int .i64 q.v, .int .i64 q.i, .int .i64 q.b, .int .i64 q.n, .int .u64 q.pt, .slice da q.d.length dc, .slice ma q.m.length mc] 80) = w2 at *
        refine HLN.out.mono ?_
        rintro e w3 ⟨rfl, hb3⟩
        rw [show mkS [] = ⟨#[]⟩ from rfl]
        have hk3 := hk.trans (hb3.mono hk.size)
        go_wp2_with fail
        exact ⟨⟨i + 1, by omega, by go_num, by rw [HNX.out]; exact builder_below HB.out hb3 (Nat.le_refl _), by rw [HNX.out]; have := HSZ.out; omega, hbw.trans (hk3.mono hbw.size)⟩, by simp [intOf]; omega⟩
      · rw [if_neg hN] at hnx
        have hNb : N.isEmpty = false := by cases N with | nil => exact absurd rfl hN | cons => rfl
        have HNX := Lib.hid hnx
        clear hnx hq hd1 hm1 hline hbd hsz
        go_wp2_with fail
        generalize wr.alloc (.cells #[.int .i64 q.k, .int .i64 q.v, .int .i64 q.i, .int .i64 q.b, .int .i64 q.n, .int .u64 q.pt, .slice da q.d.length dc, .slice ma q.m.length mc] 80) = w2 at *
        refine HLN.out.mono ?_
        rintro e w3 ⟨rfl, hb3⟩
        rw [show mkS N = ⟨N.toArray⟩ from rfl]
        have hk3 := hk.trans (hb3.mono hk.size)
        have hbw3 := hbw.trans (hk3.mono hbw.size)
        have hsz2 := HSZ.out
        have hws := writeString_any w.heap.size w.heap.size (Lib.byteCells S) ⟨N.toArray⟩ w3 (builder_below HB.out hb3 (Nat.le_refl _)) (by simp [Lib.byteCells]; show S.length + N.length ≤ _; omega) hbw3.size
        have HWS := Lib.hid hws
        clear hws
        go_wp2_with fail
        refine HWS.out.mono ?_
        rintro e w4 ⟨rfl, hbd4, hb4⟩
        have hbw4 := hbw3.trans hb4
        have hwb := writeByte_any w.heap.size w.heap.size _ 10 w4 (.inr hbd4) (by simp [Lib.byteCells, Lib.strCells]; omega) hbw4.size
        have HWB := Lib.hid hwb
        clear hwb
        go_wp2_with fail
        refine HWB.out.mono ?_
        rintro e w5 ⟨rfl, hbd5, hb5⟩
        have hfin : Lib.byteCells S ++ Lib.strCells ⟨N.toArray⟩ ++ [.int .u8 10] = Lib.byteCells (S ++ (N ++ [10])) := by
          simp [Lib.byteCells, Lib.strCells]
        rw [hfin, ← HNX.out] at hbd5
        have HBD := Lib.hid hbd5
        clear hbd4 hbd5 hfin
        go_wp2_with fail
        exact ⟨⟨i + 1, by omega, by go_num, .inr HBD.out, by rw [HNX.out]; simp; omega, hbw4.trans hb5⟩, by simp [intOf]; omega⟩
    · obtain rfl : i = n := by omega
      have hS := Try.Builder_String_any w.heap.size w.heap.size _ wr hbd hbw.size
      rw [List.take_of_length_le (Nat.le_of_eq HLL.out), ← HT.out] at hS
      have HS := Lib.hid hS
      clear hS hbd
      go_wp2_with fail
      refine HS.out.mono ?_
      rintro e w2 ⟨rfl, hb2⟩
      go_wp2_with fail
      go_ret
      exact ⟨rfl, hbw.trans hb2⟩
end Go.Proofs.Ytljbehndnledpaa
