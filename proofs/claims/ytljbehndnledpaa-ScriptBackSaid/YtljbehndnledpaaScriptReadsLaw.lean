/- The walk of the law ScriptReads: it returns true and writes nothing that was there. No condition. Printed by wip/mkscriptreads.py. -/
import Derived.Test.YtljbehndnledpaaParse
import Derived.Test.YtljbehndnledpaaSame29
namespace Go.Proofs.Ytljbehndnledpaa
open Go.RowKit

/-- What Read returns. -/
def resO : Option PO → PO × Nat
  | none => (PO.zero, 21)
  | some o => (o, 0)
theorem read_uni {l : List (List UInt8)} {w w' : World} {e : Ending} (h : ReadEnds l w e w') : ∃ (da ma : Option Addr) (dc mc : Nat),
    e = .returned (.tuple #[opV (resO (readO l)).1 (.slice da (resO (readO l)).1.d.length dc) (.slice ma (resO (readO l)).1.m.length mc), .int .i64 ((resO (readO l)).2 : Int)]) ∧
      Bs w' da (resO (readO l)).1.d.length (resO (readO l)).1.d ∧ Is .i64 w' ma (resO (readO l)).1.m.length (resO (readO l)).1.m ∧ Below w.heap.size w w' := by
  obtain ⟨hb, ⟨hn, rfl⟩ | ⟨o, dv, mv, hs, rfl, hd, hm⟩⟩ := h
  · rw [hn]
    exact ⟨none, none, 0, 0, rfl, ⟨rfl, fun i x hx => by simp [resO, PO.zero] at hx⟩, ⟨rfl, fun i x hx => by simp [resO, PO.zero] at hx⟩, hb⟩
  · rw [hs]
    obtain ⟨da, dc, ma, mc, rfl, rfl, h1, h2⟩ := own_op hd hm
    exact ⟨da, ma, dc, mc, rfl, h1, h2, hb⟩
def smallO (q : PO) : Prop := q.d.length ≤ 64 ∧ q.m.length ≤ 8
theorem readO_small (l : List (List UInt8)) (o : PO) (h : readO l = some o) : smallO o := by
  obtain ⟨h1, ⟨-, h3⟩, -⟩ := readO_some l o h
  exact right_len o h1 h3
theorem parseFrom_small : ∀ (L : List (List UInt8)) (i : Nat) (acc : List PO), (∀ q ∈ acc, smallO q) → ∀ q ∈ (parseFrom i L acc).1, smallO q
  | [], i, acc, h, q, hq => h q hq
  | l :: L, i, acc, h, q, hq => by
    rw [parseFrom] at hq
    split at hq
    · exact parseFrom_small L (i + 1) acc h q hq
    · split at hq
      · simp at hq
      · rename_i o ho
        refine parseFrom_small L (i + 1) _ (fun p hp => ?_) q hq
        rcases List.mem_append.1 hp with hp | hp
        · exact h p hp
        · rw [List.mem_singleton.1 hp]; exact readO_small _ _ ho
theorem parseO_small (s : List UInt8) : ∀ q ∈ (parseO s).1, smallO q := by
  unfold parseO
  split
  · intro q hq; simp at hq
  · exact parseFrom_small _ _ _ (fun q hq => by simp at hq)
theorem parseFrom_count : ∀ (L : List (List UInt8)) (i : Nat) (acc : List PO), (parseFrom i L acc).1.length ≤ acc.length + L.length
  | [], i, acc => by simp [parseFrom]
  | l :: L, i, acc => by
    rw [parseFrom]
    split
    · have := parseFrom_count L (i + 1) acc; simp; omega
    · split
      · simp
      · have := parseFrom_count L (i + 1) (acc ++ [‹PO›]); simp at *; omega
theorem parseO_count (s : List UInt8) : (parseO s).1.length ≤ s.length + 1 := by
  unfold parseO
  split
  · simp
  · have h1 := parseFrom_count (linesL s) 0 []
    have h2 := (lines_each s).2
    simp at h1; omega

set_option maxRecDepth 100000 in
set_option maxHeartbeats 16000000 in
theorem scriptReads_law (s : ByteArray) (w : World) :
    Calls Try.prog 12 #[.string s] w fun e w' => e = .returned (.bool true) ∧ Below w.heap.size w w' := by
  by_cases hbig : 2000 < s.size
  · have hbi : (2000 : Int) < (s.size : Int) := by omega
    go_enter Try.func12, Try.ntmps12
    go_wp2_with fail
    go_ret
    exact ⟨rfl, Below.refl _ _⟩
  · have hbi : ¬ (2000 : Int) < (s.size : Int) := by omega
    have hp1 := fun w => parse_any s w (by omega)
    have hp2 := fun w => refParse_any s w (by omega)
    have hr1 := fun w => (scriptRead_any s w (by omega)).mono (fun e w' h => read_uni h)
    have hr2 := fun w => (refReadO_any s w (by omega)).mono (fun e w' h => read_uni h)
    have hsm := parseO_small s.data.toList
    have hct := parseO_count s.data.toList
    rw [bytes_len] at hct
    have hqs : smallO (resO (readO (wordsL s.data.toList))).1 := by
      cases h : readO (wordsL s.data.toList) with
      | none => exact ⟨by simp [resO, PO.zero], by simp [resO, PO.zero]⟩
      | some o => exact readO_small _ _ h
    generalize parseO s.data.toList = P at *
    generalize resO (readO (wordsL s.data.toList)) = R at *
    obtain ⟨l, ln, er⟩ := P
    obtain ⟨q, g⟩ := R
    simp only at hsm hct hqs hp1 hp2 hr1 hr2
    obtain ⟨hqd, hqm⟩ := hqs
    have HP1 := Lib.hid hp1
    have HP2 := Lib.hid hp2
    have HR1 := Lib.hid hr1
    have HR2 := Lib.hid hr2
    have HSM := Lib.hid hsm
    clear hp1 hp2 hr1 hr2 hsm
    go_enter Try.func12, Try.ntmps12
    go_wp2_with fail
    refine (HP1.out _).mono ?_
    rintro e w1 ⟨hb1, v1, rfl, ho1⟩
    obtain ⟨a1, c1, rfl, hops1, -⟩ := ho1.ops
    have HO1 := Lib.hid hops1
    clear ho1 hops1
    go_wp2_with fail
    refine (HP2.out _).mono ?_
    rintro e w2 ⟨hb2, v2, rfl, ho2⟩
    obtain ⟨a2, c2, rfl, hops2, -⟩ := ho2.ops
    have HO2 := Lib.hid hops2
    have hb2' := hb1.trans (hb2.mono hb1.size)
    have HO1 := Lib.hid (HO1.out.below hb2 (Nat.le_refl _))
    clear ho2 hops2
    go_wp2_with fail
    refine (HR1.out _).mono ?_
    rintro e w3 ⟨da, ma, dc, mc, rfl, hd, hm, hb3⟩
    rw [show opV q (.slice da q.d.length dc) (.slice ma q.m.length mc) = .agg #[.int .i64 q.k, .int .i64 q.v, .int .i64 q.i, .int .i64 q.b, .int .i64 q.n, .int .u64 q.pt, .slice da q.d.length dc, .slice ma q.m.length mc] from rfl]
    have hb3' := hb2'.trans (hb3.mono hb2'.size)
    have hk3 : Below w3.heap.size w3 (w3.alloc (.cells #[.int .i64 q.k, .int .i64 q.v, .int .i64 q.i, .int .i64 q.b, .int .i64 q.n, .int .u64 q.pt, .slice da q.d.length dc, .slice ma q.m.length mc] 80)) := (Below.refl _ _).alloc (Nat.le_refl _) _
    have hb4' : Below w.heap.size w (w3.alloc (.cells #[.int .i64 q.k, .int .i64 q.v, .int .i64 q.i, .int .i64 q.b, .int .i64 q.n, .int .u64 q.pt, .slice da q.d.length dc, .slice ma q.m.length mc] 80)) := hb3'.alloc hb3'.size _
    have HO1 := Lib.hid ((HO1.out.below hb3 (Nat.le_refl _)).below hk3 (Nat.le_refl _))
    have HO2 := Lib.hid ((HO2.out.below hb3 (Nat.le_refl _)).below hk3 (Nat.le_refl _))
    have HD1 := Lib.hid (Is.below hd hk3 (Nat.le_refl _))
    have HM1 := Lib.hid (Is.below hm hk3 (Nat.le_refl _))
    have hc1 := Cells8.new w3 q.k q.v q.i q.b q.n q.pt (.slice da q.d.length dc) (.slice ma q.m.length mc)
    have HC1 := Lib.hid hc1
    have hP1 : w3.heap.size < (w3.alloc (.cells #[.int .i64 q.k, .int .i64 q.v, .int .i64 q.i, .int .i64 q.b, .int .i64 q.n, .int .u64 q.pt, .slice da q.d.length dc, .slice ma q.m.length mc] 80)).heap.size := by simp
    clear hd hm hk3 hc1
    go_wp2_with fail
    generalize w3.alloc (.cells #[.int .i64 q.k, .int .i64 q.v, .int .i64 q.i, .int .i64 q.b, .int .i64 q.n, .int .u64 q.pt, .slice da q.d.length dc, .slice ma q.m.length mc] 80) = w4 at *
    generalize w3.heap.size = P1 at *
    refine (HR2.out _).mono ?_
    rintro e w5 ⟨da2, ma2, dc2, mc2, rfl, hd2, hm2, hb5⟩
    rw [show opV q (.slice da2 q.d.length dc2) (.slice ma2 q.m.length mc2) = .agg #[.int .i64 q.k, .int .i64 q.v, .int .i64 q.i, .int .i64 q.b, .int .i64 q.n, .int .u64 q.pt, .slice da2 q.d.length dc2, .slice ma2 q.m.length mc2] from rfl]
    have hb5' := hb4'.trans (hb5.mono hb4'.size)
    have hk5 : Below w5.heap.size w5 (w5.alloc (.cells #[.int .i64 q.k, .int .i64 q.v, .int .i64 q.i, .int .i64 q.b, .int .i64 q.n, .int .u64 q.pt, .slice da2 q.d.length dc2, .slice ma2 q.m.length mc2] 80)) := (Below.refl _ _).alloc (Nat.le_refl _) _
    have hb6' : Below w.heap.size w (w5.alloc (.cells #[.int .i64 q.k, .int .i64 q.v, .int .i64 q.i, .int .i64 q.b, .int .i64 q.n, .int .u64 q.pt, .slice da2 q.d.length dc2, .slice ma2 q.m.length mc2] 80)) := hb5'.alloc hb5'.size _
    have HO1 := Lib.hid ((HO1.out.below hb5 (Nat.le_refl _)).below hk5 (Nat.le_refl _))
    have HO2 := Lib.hid ((HO2.out.below hb5 (Nat.le_refl _)).below hk5 (Nat.le_refl _))
    have HD1 := Lib.hid (Is.below (Is.below HD1.out hb5 (Nat.le_refl _)) hk5 (Nat.le_refl _))
    have HM1 := Lib.hid (Is.below (Is.below HM1.out hb5 (Nat.le_refl _)) hk5 (Nat.le_refl _))
    have HD2 := Lib.hid (Is.below hd2 hk5 (Nat.le_refl _))
    have HM2 := Lib.hid (Is.below hm2 hk5 (Nat.le_refl _))
    have hP5 : P1 < w5.heap.size := Nat.lt_of_lt_of_le hP1 hb5.size
    have HC1 := Lib.hid ((HC1.out.below hb5 hP1).below hk5 hP5)
    have hc2 := Cells8.new w5 q.k q.v q.i q.b q.n q.pt (.slice da2 q.d.length dc2) (.slice ma2 q.m.length mc2)
    have HC2 := Lib.hid hc2
    have hP2 : w5.heap.size < (w5.alloc (.cells #[.int .i64 q.k, .int .i64 q.v, .int .i64 q.i, .int .i64 q.b, .int .i64 q.n, .int .u64 q.pt, .slice da2 q.d.length dc2, .slice ma2 q.m.length mc2] 80)).heap.size := by simp
    have hP6 : P1 < (w5.alloc (.cells #[.int .i64 q.k, .int .i64 q.v, .int .i64 q.i, .int .i64 q.b, .int .i64 q.n, .int .u64 q.pt, .slice da2 q.d.length dc2, .slice ma2 q.m.length mc2] 80)).heap.size := Nat.lt_trans hP5 hP2
    clear hd2 hm2 hk5 hc2
    go_wp2_with fail
    generalize w5.alloc (.cells #[.int .i64 q.k, .int .i64 q.v, .int .i64 q.i, .int .i64 q.b, .int .i64 q.n, .int .u64 q.pt, .slice da2 q.d.length dc2, .slice ma2 q.m.length mc2] 80) = w6 at *
    generalize w5.heap.size = P2 at *
    refine (refSames_any a1 a2 l.length c1 c2 l w6 HO1.out HO2.out (by omega) (fun q hq => by have := HSM.out q hq; unfold smallO at this; omega)).mono ?_
    rintro e w7 ⟨rfl, hb7⟩
    obtain ⟨d0, d1, d2, d3, d4, d5, d6, d7⟩ := HC1.out.below hb7 hP6
    obtain ⟨e0, e1, e2, e3, e4, e5, e6, e7⟩ := HC2.out.below hb7 hP2
    go_wp2_with fail
    refine (refSame_any q.k q.v q.i q.b q.n q.pt q.d q.m da ma da2 ma2 q.d.length dc q.m.length mc dc2 mc2 w7 (Is.below HD1.out hb7 (Nat.le_refl _)) (Is.below HM1.out hb7 (Nat.le_refl _)) (Is.below HD2.out hb7 (Nat.le_refl _)) (Is.below HM2.out hb7 (Nat.le_refl _)) (by omega) (by omega)).mono ?_
    rintro e w8 ⟨rfl, hb8⟩
    have hb8' : Below w6.heap.size w6 w8 := hb7.trans (hb8.mono hb7.size)
    clear d0 d1 d2 d3 d4 d5 d6 d7 e0 e1 e2 e3 e4 e5 e6 e7
    go_wp2_with fail
    refine (alive29_any _).mono ?_
    rintro e w9 ⟨rfl, hb9⟩
    go_wp2_with fail
    go_ret
    exact ⟨rfl, hb6'.trans ((hb8'.trans (hb9.mono hb8'.size)).mono hb6'.size)⟩
end Go.Proofs.Ytljbehndnledpaa
