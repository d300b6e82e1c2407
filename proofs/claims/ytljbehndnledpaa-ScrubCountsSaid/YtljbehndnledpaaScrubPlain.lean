/- What the law ScrubCounts keeps; and that the counts are alike. Conditions: those of each theorem. -/
import Derived.Test.YtljbehndnledpaaScrubAlive
import Derived.Laws.StructEq
namespace Go.Proofs.Ytljbehndnledpaa
open Go.RowKit

theorem Disk.keep {base : Nat} {w w' : World} {p s : Nat} {lv : Value} {n : Nat} {late : List (Nat × List UInt8)} (h : Disk base w p s lv n late) (hk : ∀ b t, At w b t → t ≠ 71 → w'.heap[b]? = w.heap[b]?) : Disk base w' p s lv n late := by
  have hp := hk p 177 h.pt (by decide)
  have hs := hk s 37 h.st (by decide)
  refine ⟨h.pb, h.pt.heap hp, by rw [cell_heap hp]; exact h.c0, by rw [cell_heap hp]; exact h.c1, by rw [cell_heap hp]; exact h.c2, by rw [cell_heap hp]; exact h.c3, h.st.heap hs, fun i hi => ?_, ?_⟩
  · obtain ⟨g, h1, h2, h3⟩ := h.sec i hi
    have hg := hk g 5 h1 (by decide)
    exact ⟨g, h1.heap hg, by rw [cell_heap hs]; exact h2, Bs.heap h3 hg⟩
  · obtain ⟨cs, ho, he⟩ := h.row
    refine ⟨cs, ⟨ho.1, ?_⟩, fun j x hx => ?_⟩
    · rcases ho.2 with h2 | ⟨g, cap, cur, hv, hbg, hh, hr⟩
      · exact .inl h2
      · exact .inr ⟨g, cap, cur, hv, hbg, by rw [hk g 179 ⟨cur, hh⟩ (by decide)]; exact hh, hr⟩
    · obtain ⟨g, c, h1, h2, h3, h4, h6⟩ := he j x hx
      have hg := hk g 5 h1 (by decide)
      exact ⟨g, c, h1.heap hg, h2, h3, h4, Bs.heap h6 hg⟩
theorem Disk.set71 {base : Nat} {w : World} {p s : Nat} {lv : Value} {n : Nat} {late : List (Nat × List UInt8)} (h : Disk base w p s lv n late) {b : Nat} (hb : At w b 71) (k : Nat) (v : Value) : Disk base (w.setCell ⟨b, k, none⟩ v) p s lv n late :=
  h.keep fun _ _ hc ht => Below.heap_setCell _ _ _ _ (hc.ne hb ht)

/-- What has been written when k sectors have. -/
def lateK (ls : List (List UInt8)) (k : Nat) : List (Nat × List UInt8) := (List.range k).map fun j => (j, ls.getD j [])
theorem lateK_length (ls : List (List UInt8)) (k : Nat) : (lateK ls k).length = k := by simp [lateK]
theorem lateK_succ (ls : List (List UInt8)) (k : Nat) : lateK ls (k + 1) = lateK ls k ++ [(k, ls.getD k [])] := by simp [lateK, List.range_succ]
theorem lateK_idx (ls : List (List UInt8)) (k : Nat) (j : Nat) (x : Nat × List UInt8) (h : (lateK ls k)[j]? = some x) : x.1 = j := by
  simp only [lateK, List.getElem?_map] at h
  cases hr : (List.range k)[j]? with
  | none => rw [hr] at h; cases h
  | some i =>
    rw [hr] at h
    simp at h
    have := List.getElem?_range (n := k) (i := j)
    have hj : j < k := by have := (List.getElem?_eq_some_iff.1 hr).1; simpa using this
    rw [List.getElem?_range hj] at hr
    cases hr
    rw [← h]
theorem lateK_data (ls : List (List UInt8)) (k i : Nat) : dataAt (lateK ls k) i = if i < k then ls.getD i [] else List.replicate 128 0 := by
  unfold dataAt lateK
  by_cases h : i < k
  · rw [if_pos h, List.getElem?_map, List.getElem?_range h]; rfl
  · rw [if_neg h, List.getElem?_map, List.getElem?_eq_none (by simp; omega)]; rfl

/-- The counts that are wanted. -/
def wantF (ls : List (List UInt8)) (i : Nat) : Nat := cls (ls.getD i [])

theorem cnt_split (f g : Nat → Nat) (m : Nat) (h1 : ∀ i, i < m → f i = g i) (h2 : ∀ i, m ≤ i → f i = 0) (j : Nat) : ∀ n, cntF f n j = cntF g (min n m) j + if 0 = j then n - m else 0
  | 0 => by simp [cntF]
  | n + 1 => by
    rw [cntF, cnt_split f g m h1 h2 j n]
    by_cases h : n < m
    · rw [show min (n + 1) m = min n m + 1 by omega, cntF, show min n m = n by omega, h1 n h, show n + 1 - m = 0 by omega, show n - m = 0 by omega]
      omega
    · rw [show min (n + 1) m = m by omega, show min n m = m by omega, h2 n (by omega)]
      by_cases hj : 0 = j
      · simp only [if_pos hj] <;> omega
      · simp only [if_neg hj] <;> omega

theorem sumT_add (S T : Nat → Nat) : ∀ k, sumT (fun j => S j + T j) k = sumT S k + sumT T k
  | 0 => rfl
  | k + 1 => by simp only [sumT, sumT_add S T k]; omega
theorem sumT_zero : ∀ k, sumT (fun _ => 0) k = 0
  | 0 => rfl
  | k + 1 => by simp only [sumT, sumT_zero k]
theorem sumT_one (x : Nat) (h : x < 8) : sumT (fun j => if x = j then 1 else 0) 7 = 1 := by
  have : x = 0 ∨ x = 1 ∨ x = 2 ∨ x = 3 ∨ x = 4 ∨ x = 5 ∨ x = 6 ∨ x = 7 := by omega
  rcases this with rfl | rfl | rfl | rfl | rfl | rfl | rfl | rfl <;> rfl
theorem cnt_sum (f : Nat → Nat) (hf : ∀ i, f i < 8) : ∀ n, sumT (cntF f n) 7 = n
  | 0 => sumT_zero 7
  | n + 1 => by
    have e : cntF f (n + 1) = fun j => cntF f n j + if f n = j then 1 else 0 := rfl
    rw [e, sumT_add, cnt_sum f hf n, sumT_one _ (hf n)]
theorem cls_lt (l : List UInt8) : cls l < 8 := by
  unfold cls
  split
  · rename_i h
    have := isPage_kind h
    omega
  · split <;> omega

/-- One more of a kind. -/
theorem tally_more {base : Nat} {w w5 : World} {f : Nat → Nat} {k kd b : Nat} (hcl : f k = kd) (hkd : kd < 8) (s3 : Tally w5 b (cntF f k)) (hb : Below base w w5) (hbb : base ≤ b) (hk : k ≤ 100000) :
    w5.cell? ⟨b, kd, none⟩ = some (.int .i64 (cntF f k kd : Int)) ∧ w5.frozen? ⟨b, kd, none⟩ = false ∧ cntF f k kd ≤ k ∧ IntKind.i64.wrap ((cntF f k kd : Int) + 1) = (cntF f k kd : Int) + 1 ∧
    Tally (w5.setCell ⟨b, kd, none⟩ (.int .i64 ((cntF f k kd : Int) + 1))) b (cntF f (k + 1)) ∧
    Below base w (w5.setCell ⟨b, kd, none⟩ (.int .i64 ((cntF f k kd : Int) + 1))) := by
  have hle := cntF_le f k kd
  exact ⟨(s3 kd hkd).1, (s3 kd hkd).2, hle, IntWalk.i64_in _ (by omega), (s3.add kd 1).congr (fun j _ => by simp only [cntF, hcl]), hb.setCell (p := ⟨b, kd, none⟩) hbb _⟩

set_option maxRecDepth 10000 in
/-- Seven numbers are themselves. -/
theorem eq69 (a b c d e f g : Int) (w : World) :
    (Op.equalIn 9999 69 (.agg #[.int .i64 a, .int .i64 b, .int .i64 c, .int .i64 d, .int .i64 e, .int .i64 f, .int .i64 g]) (.agg #[.int .i64 a, .int .i64 b, .int .i64 c, .int .i64 d, .int .i64 e, .int .i64 f, .int .i64 g])).run Try.prog w = .ok true w := by
  have h3 : ∀ (x : Int) (w : World), (Op.equalIn 9998 3 (.int .i64 x) (.int .i64 x)).run Try.prog w = .ok true w := fun x w => by
    have := run_equalIn_int (P := Try.prog) (w := w) 9997 3 .i64 .i64 x x Try.underlying3
    rw [this]; simp
  have hs : (sizeOf 3).run Try.prog w = .ok 1 w := by simp [go_sem]
  have ha : ∀ w, (isAgg 3).run Try.prog w = .ok false w := fun w => by simp [isAgg, run_underlying Try.underlying3]
  have hp : ∀ (xs : Array Value) (i : Nat) (w : World) (h : i < xs.size), (part 3 xs i).run Try.prog w = .ok xs[i] w := fun xs i w h => by
    simp [part, ha, h]
  rw [Op.equalIn]
  simp only [Sem.run_bind, run_underlying Try.underlying69, Result.andThen_ok, hs]
  rw [Std.Legacy.Range.forIn_eq_forIn_range']
  simp [List.range', Std.Legacy.Range.size, hp, h3]

/-- Sectors that came in. -/
def Sectors (w : World) (a : Option Addr) (len : Nat) (ls : List (List UInt8)) : Prop :=
  ls.length = len ∧ ∀ r x, ls[r]? = some x → ∃ b o A C, a = some ⟨b, o, none⟩ ∧ w.cell? ⟨b, o + r, none⟩ = some (.slice A x.length C) ∧ b < w.heap.size ∧ Bs w A x.length x ∧ x.length ≤ C
end Go.Proofs.Ytljbehndnledpaa
