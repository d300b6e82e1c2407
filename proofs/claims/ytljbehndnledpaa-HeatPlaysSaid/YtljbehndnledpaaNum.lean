/- The walks of text.Num, yesteryearref08.Num: a number's digits. Conditions: those of each theorem. -/
import Derived.Test.YtljbehndnledpaaDigits
import Derived.Laws.IdiomStrings
namespace Go.Proofs.Ytljbehndnledpaa
open Go.RowKit

/-- The last bytes of a block of twenty are acc. -/
structure Tail20 (B i : Nat) (acc : List UInt8) (wr : World) : Prop where
  len : i + acc.length = 20
  cell : ∀ j c, acc[j]? = some c → wr.cell? ⟨B, i + j, none⟩ = some (.int .u8 (c.toNat : Int))
  some : ∀ j, j < 20 → (wr.cell? ⟨B, j, none⟩).isSome = true
  fz : ∀ j, wr.frozen? ⟨B, j, none⟩ = false

theorem Tail20.push {B i : Nat} {acc : List UInt8} {wr : World} (h : Tail20 B (i + 1) acc wr) (c : UInt8) (v : Int) (hv : v = (c.toNat : Int)) : Tail20 B i (c :: acc) (wr.setCell ⟨B, i, none⟩ (.int .u8 v)) := by
  have hlen := h.len
  obtain ⟨u, hu⟩ := Option.isSome_iff_exists.1 (h.some i (by omega))
  refine ⟨by simp; omega, fun j d hd => ?_, fun j hj => ?_, fun j => ?_⟩
  · cases j with
    | zero =>
      simp only [List.getElem?_cons_zero, Option.some.injEq] at hd
      subst hd
      rw [Nat.add_zero, World.cell?_setCell_same _ _ _ hu, hv]
    | succ j =>
      rw [World.cell?_setCell_other _ _ _ _ (by simp), show i + (j + 1) = i + 1 + j by omega]
      exact h.cell j d (by simpa using hd)
  · by_cases e : j = i
    · subst e; rw [World.cell?_setCell_same _ _ _ hu]; rfl
    · rw [World.cell?_setCell_other _ _ _ _ (fun e' => e (by simpa using e'.symm))]; exact h.some j hj
  · rw [World.frozen?_setCell]; exact h.fz j

theorem str_of_cells {P : Program} {w : World} {src dst e : TypeId} {B o n : Nat} {cap : Nat} {l : List UInt8} (hl : l.length = n) (hs : P.underlying src = some (.slice e)) (he : P.underlying e = some (.int .u8)) (hd : P.underlying dst = some .string)
    (hc : ∀ j c, l[j]? = some c → w.cell? ⟨B, o + j, none⟩ = some (.int .u8 (c.toNat : Int))) :
    (convert src dst (.slice (some ⟨B, o, none⟩) n cap)).run P w = .ok (.string ⟨l.toArray⟩) w := by
  subst hl
  refine run_convert_bytes_back w src dst e ⟨B, o, none⟩ cap l hs he hd fun j hj => ?_
  rw [← hc j _ (List.getElem?_eq_getElem hj)]
  congr 1
  unfold Addr.add
  split <;> simp_all

theorem size5 (w : World) : (sizeOf 5).run Try.prog w = .ok 1 w := by kernel_rfl

theorem slice20 (w : World) (B i : Nat) (hi : i < 20) :
    (Instr.sliceAt 167 (.pointer (some ⟨B, 0, none⟩)) (some (.int .i64 (i : Int))) none none).run Try.prog w = .ok (.slice (some ⟨B, i, none⟩) (20 - i) (20 - i)) w := by
  have hn : Try.prog.arrayLen 167 = 20 := by simp [Program.arrayLen, Try.underlying167]
  have he : Try.prog.elem 167 = 5 := by simp [Program.elem, Try.underlying167]
  have h := run_sliceAt_array_l (P := Try.prog) w 167 ⟨B, 0, none⟩ (by rw [hn, he]; exact Try.underlying167) .i64 (i : Int) (by omega) (by rw [hn]; omega)
  rw [h, hn, he, size5]
  have ne : ¬ 20 = i := by omega
  have ea : (⟨B, 0, none⟩ : Addr).add i = ⟨B, i, none⟩ := by unfold Addr.add; split <;> simp_all
  simp only [Result.andThen, slicedAt, Int.toNat_natCast, Nat.mul_one, if_neg ne, ea]

/-- What Num's loop keeps. -/
def NumRel (B n : Nat) (w : World) (u0 u4 u5 : Value) (wr : World) : Prop :=
  ∃ (m i : Nat) (acc : List UInt8) (ok : Bool), u0 = .int .u64 m ∧ u4 = .int .i64 i ∧ u5 = .bool ok ∧ Tail20 B i acc wr ∧ Below w.heap.size w wr ∧
    m ≤ n ∧ m * 10 ^ acc.length ≤ n ∧ (ok = true → (acc = [] ∨ 0 < m) ∧ decA m acc = dec n) ∧ (ok = false → acc = dec n)

theorem NumRel.room {n m i : Nat} {acc : List UInt8} {B : Nat} {wr : World} (hn : n < 18446744073709551616) (h : Tail20 B i acc wr) (hm : m * 10 ^ acc.length ≤ n) (h0 : acc = [] ∨ 0 < m) : 0 < i := by
  have hl := h.len
  rcases h0 with rfl | h0
  · simp at hl; omega
  · rcases Nat.eq_zero_or_pos i with e | e
    · subst e
      have : acc.length = 20 := by omega
      rw [this] at hm
      have : 1 * 10 ^ 20 ≤ m * 10 ^ 20 := Nat.mul_le_mul_right _ h0
      omega
    · exact e

set_option maxRecDepth 100000 in
set_option maxHeartbeats 1000000 in
theorem num_any (n : Nat) (w : World) (hn : n < 18446744073709551616) :
    Calls Try.prog 27 #[.int .u64 n] w fun e w' => e = .returned (.string ⟨(dec n).toArray⟩) ∧ Below w.heap.size w w' := by
  go_enter Try.func27, Try.ntmps27
  go_wp2_with fail
  go_loopw [0, 4, 5] (fun u0 u4 u5 wr => NumRel w.heap.size n w u0 u4 u5 wr) (fun _ u4 _ _ => (intOf u4).toNat)
  case atStart =>
    refine ⟨n, 20, [], true, rfl, rfl, rfl, ⟨rfl, fun j c h => by simp at h, fun j hj => ?_, fun j => by simp [go_sem]⟩, (Below.refl _ _).alloc (Nat.le_refl _) _, Nat.le_refl _, by simp, fun _ => ⟨.inl rfl, rfl⟩, fun h => by cases h⟩
    simp only [World.cell?_alloc_mark]
    rw [Array.getElem?_eq_getElem (by simpa using hj)]; rfl
  case round =>
    obtain ⟨m, i, acc, ok, rfl, rfl, rfl, ht, hb, hmn, hm, hok, hnot⟩ := hrel
    cases ok with
    | true =>
      obtain ⟨h0, hd⟩ := hok rfl
      have hi := NumRel.room hn ht hm h0
      obtain ⟨j, rfl⟩ : ∃ j, i = j + 1 := ⟨i - 1, by omega⟩
      have hlen := ht.len
      obtain ⟨u, hu⟩ := Option.isSome_iff_exists.1 (ht.some j (by omega))
      have hfz := ht.fz j
      clear hok hnot hi h0
      go_wp2_with fail
      have hdig : (48 : Int) + (m : Int) % 10 = ((digB m).toNat : Int) := by rw [digB_nat]; omega
      refine ⟨⟨m / 10, j, digB m :: acc, decide (0 < m / 10), by go_num, rfl, ?_, ht.push (digB m) _ hdig, hb.setCell (Nat.le_refl _) _, by omega, ?_, ?_, ?_⟩, by simp [intOf]⟩
      · congr 1
        by_cases h : 0 < m / 10
        · rw [decide_eq_true h, decide_eq_true (by omega)]
        · rw [decide_eq_false h, decide_eq_false (by omega)]
      · rw [List.length_cons, Nat.pow_succ]
        have : m / 10 * (10 ^ acc.length * 10) ≤ m * 10 ^ acc.length := by
          rw [Nat.mul_comm (10 ^ acc.length) 10, ← Nat.mul_assoc]
          exact Nat.mul_le_mul_right _ (Nat.div_mul_le_self m 10)
        omega
      · intro h
        have h := of_decide_eq_true h
        exact ⟨.inr h, by rw [← hd, decA_big m acc (by omega)]⟩
      · intro h
        have h := of_decide_eq_false h
        rw [← hd, decA_small m acc (by omega)]
    | false =>
      obtain rfl : acc = dec n := hnot rfl
      have hlen := ht.len
      have hcv := str_of_cells (P := Try.prog) (w := wr) (src := 37) (dst := 9) (e := 5) (B := w.heap.size) (o := i) (n := 20 - i) (cap := 20 - i) (l := dec n) (by omega) Try.underlying37 Try.underlying5 Try.underlying9 ht.cell
      have hi : i < 20 := by
        have := dec_ne n
        cases hd : dec n with
        | nil => exact absurd hd this
        | cons x l => rw [hd, List.length_cons] at hlen; omega
      have hsl := slice20 wr w.heap.size i hi
      clear hok hnot ht hm hlen
      go_wp2_with fail
      go_ret
      exact ⟨rfl, hb⟩
theorem bytes_app (a b : List UInt8) : (⟨a.toArray⟩ : ByteArray) ++ ⟨b.toArray⟩ = ⟨(a ++ b).toArray⟩ := by
  apply ByteArray.ext
  simp [ByteArray.data_append]

theorem tenDigs : ∀ k : Fin 10, (⟨#[48, 49, 50, 51, 52, 53, 54, 55, 56, 57]⟩ : ByteArray).extract k.val (k.val + 1) = ⟨[UInt8.ofNat (48 + k.val)].toArray⟩ := by decide +kernel

theorem digCut (m k : Nat) (hk : k = m % 10) (acc : List UInt8) : (⟨#[48, 49, 50, 51, 52, 53, 54, 55, 56, 57]⟩ : ByteArray).extract k (k + 1) ++ ⟨acc.toArray⟩ = ⟨(digB m :: acc).toArray⟩ := by
  subst hk
  have := tenDigs ⟨m % 10, by omega⟩
  simp only at this
  rw [this, bytes_app]
  rfl

theorem few_digits {n m : Nat} {acc : List UInt8} (hn : n < 18446744073709551616) (hm : m * 10 ^ acc.length ≤ n) (h0 : acc = [] ∨ 0 < m) : acc.length < 20 := by
  rcases h0 with rfl | h0
  · simp
  · rcases Nat.lt_or_ge acc.length 20 with h | h
    · exact h
    · have h1 : 10 ^ 20 ≤ 10 ^ acc.length := Nat.pow_le_pow_right (by omega) h
      have h2 : 1 * 10 ^ acc.length ≤ m * 10 ^ acc.length := Nat.mul_le_mul_right _ h0
      omega

set_option maxRecDepth 100000 in
set_option maxHeartbeats 1000000 in
theorem refNum_any (n : Nat) (w : World) (hn : n < 18446744073709551616) :
    Calls Try.prog 21 #[.int .u64 n] w fun e w' => e = .returned (.string ⟨(dec n).toArray⟩) ∧ w = w' := by
  go_enter Try.func21, Try.ntmps21
  go_wp2_with fail
  go_loop [0, 3] (fun u0 u3 => ∃ (m : Nat) (acc : List UInt8), m ≤ n ∧ u0 = .int .u64 m ∧ u3 = .string ⟨acc.toArray⟩ ∧ m * 10 ^ acc.length ≤ n ∧ (acc = [] ∨ 0 < m) ∧ decA m acc = dec n) (fun u0 _ => (intOf u0).toNat)
  case atStart => exact ⟨n, [], Nat.le_refl _, rfl, rfl, by simp, .inl rfl, rfl⟩
  case round =>
    obtain ⟨m, acc, hm, rfl, rfl, hp, h0, hd⟩ := hrel
    have hlen := few_digits hn hp h0
    have HD := Lib.hid hd
    have HP := Lib.hid hp
    clear hd hp h0
    by_cases h : 9 < m
    · go_wp2_with fail
      refine ⟨⟨m / 10, digB m :: acc, by omega, by go_num, congrArg Value.string (digCut m _ rfl acc), ?_, .inr (by omega), by rw [← HD.out, decA_big m acc (by omega)]⟩, by simp [intOf]; omega⟩
      rw [List.length_cons, Nat.pow_succ]
      have : m / 10 * (10 ^ acc.length * 10) ≤ m * 10 ^ acc.length := by
        rw [Nat.mul_comm (10 ^ acc.length) 10, ← Nat.mul_assoc]
        exact Nat.mul_le_mul_right _ (Nat.div_mul_le_self m 10)
      have := HP.out
      omega
    · go_wp2_with fail
      go_ret
      exact ⟨congrArg (fun s => Ending.returned (.string s)) (by rw [← HD.out, decA_small m acc (by omega)]; exact digCut m m (by omega) acc), rfl⟩
end Go.Proofs.Ytljbehndnledpaa
