/- The walk of cursor.Line. Conditions: those of each theorem. -/
import Derived.Deep.RegionWith
import Derived.Test.YtljbehndnledpaaExtentText
import Derived.Test.YtljbehndnledpaaCursorTimes
namespace Go.Proofs.Ytljbehndnledpaa
open Go.RowKit

/-- An event's line. -/
def headL (seq : Nat) (l : List (Int × Int)) : List UInt8 := dec seq ++ match whenL (seq : Int) l with | some t => [32, 64] ++ dec t.toNat | none => []
def lineC (seq : Nat) (l : List (Int × Int)) (b : List Int) : List UInt8 := headL seq l ++ ([32] ++ extL (ofL b))
theorem whenL_mem {s t : Int} : ∀ {l : List (Int × Int)}, whenL s l = some t → ∃ r ∈ l, r.2 = t
  | [], h => by cases h
  | r :: l, h => by
    unfold whenL at h
    split at h
    · exact ⟨r, List.mem_cons_self, by simpa using h⟩
    · obtain ⟨q, hq, e⟩ := whenL_mem h
      exact ⟨q, List.mem_cons_of_mem _ hq, e⟩
theorem joinR_len : ∀ (l : List (Int × Int)) (m : Bool), (∀ r ∈ l, 1 ≤ r.2 ∧ r.2 ≤ 4097 ∧ 0 ≤ r.1 ∧ r.1 ≤ 4096) → (joinR m l).length ≤ l.length * 50
  | [], m, _ => by simp [joinR]
  | r :: t, m, h => by
    have hr := h r List.mem_cons_self
    have ih := joinR_len t true fun q hq => h q (List.mem_cons_of_mem _ hq)
    have h1 := dec_short r.1 (by omega)
    have h2 := dec_short (r.1 + r.2 - 1) (by omega)
    unfold joinR partR
    simp only [List.length_append, List.length_cons]
    split <;> split <;> simp only [List.length_append, List.length_cons, List.length_nil] <;> omega
theorem extL_len (l : List (Int × Int)) : (extL l).length ≤ l.length * 50 := by
  unfold extL
  split
  · exact joinR_len l _ (rightR_mem l _ (by assumption))
  · simp
theorem ofL_len (zs : List Int) : (ofL zs).length ≤ zs.length := by
  have hf : ∀ (l : List Int) (acc : List (Int × Int)), (l.foldl ofStep acc).length ≤ acc.length + l.length := by
    intro l
    induction l with
    | nil => intro acc; simp
    | cons b l ih =>
      intro acc
      have h1 := ih (ofStep acc b)
      have h2 := ofStep_len acc b
      simp only [List.foldl_cons, List.length_cons]
      omega
  have h1 := hf (Lib.compact (sortL zs)) []
  have h2 := compact_le (sortL zs)
  rw [sortL_len] at h2
  unfold ofL
  simp at h1
  omega
theorem dec_wide (n : Nat) (h : n < 18446744073709551616) : (dec n).length ≤ 20 := by
  rcases Nat.lt_or_ge 20 (dec n).length with h1 | h1
  · have h2 := val_ge (dec n) (digs_dec n) (dec_ne n) (dec_head n (by omega))
    rw [val_dec] at h2
    have h3 : 10 ^ 20 ≤ 10 ^ ((dec n).length - 1) := Nat.pow_le_pow_right (by omega) (by omega)
    omega
  · exact h1

set_option maxRecDepth 100000 in
set_option maxHeartbeats 8000000 in
theorem line_any (st n c nm cm seq : Nat) (a am : Option Addr) (b : List Int) (l : List (Int × Int)) (w : World) (hs : w.cell? ⟨st, 8, none⟩ = some (.slice am nm cm)) (hm : Marks w am nm l) (hmb : ∀ r ∈ l, 0 ≤ r.2 ∧ r.2 < 18446744073709551616) (hnm : nm ≤ 9223372036854775807)
    (hb : Is .i64 w a n b) (hn : n ≤ 60) (hq : seq < 18446744073709551616) :
    Calls Try.prog 93 #[.pointer (some ⟨st, 0, none⟩), .agg #[.int .u64 (seq : Int), .slice a n c]] w fun e w' => e = .returned (.string (mkS (lineC seq l b))) ∧ Below w.heap.size w w' := by
  have hb0 : Below w.heap.size w (w.alloc (.cells #[.int .u64 (seq : Int), .slice a n c] 142)) := (Below.refl _ _).alloc (Nat.le_refl _) _
  have hbl : b.length = n := hb.len
  have hsl := World.block_lt_of_cell? _ _ hs
  have HA : Hid (∀ W, Below (w.alloc (.cells #[.int .u64 (seq : Int), .slice a n c] 142)).heap.size (w.alloc (.cells #[.int .u64 (seq : Int), .slice a n c] 142)) W → W.cell? ⟨w.heap.size, 0, none⟩ = some (.int .u64 (seq : Int)) ∧ W.cell? ⟨w.heap.size, 1, none⟩ = some (.slice a n c) ∧ W.cell? ⟨st, 8, none⟩ = some (.slice am nm cm) ∧ Below w.heap.size w W) := Lib.hid fun W hW => by
    have hsz : w.heap.size < (w.alloc (.cells #[.int .u64 (seq : Int), .slice a n c] 142)).heap.size := by simp
    have h1 := hb0.trans (hW.mono hb0.size)
    refine ⟨(hW.cell (p := ⟨w.heap.size, 0, none⟩) hsz).trans (by simp), (hW.cell (p := ⟨w.heap.size, 1, none⟩) hsz).trans (by simp), (h1.cell (p := ⟨st, 8, none⟩) hsl).trans hs, h1⟩
  have HM := Lib.hid hm
  have HI := Lib.hid hb
  have hN1 : Calls Try.prog 27 #[.int .u64 (seq : Int)] (w.alloc (.cells #[.int .u64 (seq : Int), .slice a n c] 142)) fun e w' => e = .returned (.string (mkS (dec seq))) ∧ Below (w.alloc (.cells #[.int .u64 (seq : Int), .slice a n c] 142)).heap.size (w.alloc (.cells #[.int .u64 (seq : Int), .slice a n c] 142)) w' := num_any seq _ hq
  have HN1 := Lib.hid hN1
  have hd1 := dec_wide seq hq
  have he1 := extL_len (ofL b)
  have he2 := ofL_len b
  clear hs hm hb hN1 hsl
  go_enter Try.func93, Try.ntmps93
  go_wp2_with fail
  refine HN1.out.mono ?_
  clear HN1
  rintro e w2 ⟨rfl, hb2⟩
  obtain ⟨c0, c1, c2, hb02⟩ := HA.out w2 hb2
  have HW : Hid (∀ W, Below w.heap.size w W → Calls Try.prog 147 #[.slice am nm cm, .int .u64 (seq : Int)] W fun e w' => e = .returned (.tuple #[.int .u64 ((whenL (seq : Int) l).getD 0), .bool (whenL (seq : Int) l).isSome]) ∧ Below W.heap.size W w') :=
    Lib.hid fun W hW => when_any am nm cm l (seq : Int) W (HM.out.below hW (Nat.le_refl _)) hnm
  have HOF : Hid (∀ W, Below w.heap.size w W → Calls Try.prog 95 #[.slice a n c] W fun e w' => ∃ v, e = .returned v ∧ OwnRuns w' W.heap.size v (ofL b) ∧ Below W.heap.size W w') := Lib.hid fun W hW => of_any a n c b W (Is.below HI.out hW (Nat.le_refl _)) (by omega)
  have z1 := mkS_size (dec seq)
  have z2 := mkS_size (extL (ofL b))
  have hsp : (⟨#[32]⟩ : ByteArray).size = 1 := rfl
  have hat : (⟨#[32, 64]⟩ : ByteArray).size = 2 := rfl
  cases hwh : whenL (seq : Int) l with
  | none =>
    have HL : Hid (lineC seq l b = dec seq ++ ([32] ++ extL (ofL b))) := Lib.hid (by unfold lineC headL; rw [hwh]; simp)
    rw [hwh] at HW
    clear hwh
    have HE : Hid (mkS (dec seq) ++ ⟨#[32]⟩ ++ mkS (extL (ofL b)) = mkS (lineC seq l b)) := Lib.hid (by rw [HL.out]; simp only [← mkS_app, ByteArray.append_assoc]; rfl)
    go_wp2_with fail
    go_region_with (go_at_call 147; refine (HW.out _ hb02.drew).mono ?_; rintro e w3 ⟨rfl, hb3⟩)
    all_goals
      have hb3' : Below w2.heap.size w2 w3 := (Below.refl _ w2).drew.trans hb3
      obtain ⟨d0, d1, d2, hb03⟩ := HA.out w3 (hb2.trans (hb3'.mono hb2.size))
      go_wp2_with fail
      refine (HOF.out w3 hb03).mono ?_
      rintro e w4 ⟨v4, rfl, ho4, hb4⟩
      obtain ⟨a4, c4, rfl, hru, -⟩ := ho4.runs
      have HX := Lib.hid (extText_any a4 (ofL b).length c4 (ofL b) w4 hru (by omega))
      clear ho4 hru
      go_wp2_with fail
      refine HX.out.mono ?_
      rintro e w5 ⟨rfl, hb5⟩
      have hb04 := hb03.trans (hb4.mono hb03.size)
      go_wp2_with fail
      go_ret
      exact ⟨congrArg (fun x => Ending.returned (Value.string x)) HE.out, hb04.trans (hb5.mono hb04.size)⟩
  | some t =>
    obtain ⟨r, hr, hrt⟩ := whenL_mem hwh
    have ht := hmb r hr
    rw [hrt] at ht
    obtain ⟨tn, rfl⟩ : ∃ tn : Nat, t = tn := ⟨t.toNat, by omega⟩
    have hd2 := dec_wide tn (by omega)
    have z3 := mkS_size (dec tn)
    have HN2 : Hid (∀ W, Calls Try.prog 27 #[.int .u64 (tn : Int)] W fun e w' => e = .returned (.string (mkS (dec tn))) ∧ Below W.heap.size W w') := Lib.hid fun W => num_any tn W (by omega)
    have HL : Hid (lineC seq l b = dec seq ++ (([32, 64] ++ dec tn) ++ ([32] ++ extL (ofL b)))) := Lib.hid (by unfold lineC headL; rw [hwh]; simp)
    rw [hwh] at HW
    clear hwh hr hrt
    have HE : Hid (mkS (dec seq) ++ (⟨#[32, 64]⟩ ++ mkS (dec tn)) ++ ⟨#[32]⟩ ++ mkS (extL (ofL b)) = mkS (lineC seq l b)) := Lib.hid (by rw [HL.out]; simp only [← mkS_app, ByteArray.append_assoc]; rfl)
    go_wp2_with fail
    go_region_with (go_at_call 147; refine (HW.out _ hb02.drew).mono ?_; rintro e w3 ⟨rfl, hb3⟩)
    all_goals
      have hb3' : Below w2.heap.size w2 w3 := (Below.refl _ w2).drew.trans hb3
      have hb23 := hb2.trans (hb3'.mono hb2.size)
      go_wp2_with fail
      refine (HN2.out w3).mono ?_
      rintro e w6 ⟨rfl, hb6⟩
      obtain ⟨d0, d1, d2, hb03⟩ := HA.out w6 (hb23.trans (hb6.mono hb23.size))
      go_wp2_with fail
      refine (HOF.out w6 hb03).mono ?_
      rintro e w4 ⟨v4, rfl, ho4, hb4⟩
      obtain ⟨a4, c4, rfl, hru, -⟩ := ho4.runs
      have HX := Lib.hid (extText_any a4 (ofL b).length c4 (ofL b) w4 hru (by omega))
      clear ho4 hru
      go_wp2_with fail
      refine HX.out.mono ?_
      rintro e w5 ⟨rfl, hb5⟩
      have hb04 := hb03.trans (hb4.mono hb03.size)
      go_wp2_with fail
      go_ret
      exact ⟨congrArg (fun x => Ending.returned (Value.string x)) HE.out, hb04.trans (hb5.mono hb04.size)⟩
end Go.Proofs.Ytljbehndnledpaa
