/- The walk of yesteryearlaw46.alive. -/
import Derived.Test.YtljbehndnledpaaCount
namespace Go.Proofs.Ytljbehndnledpaa
open Go.RowKit

theorem tallyV_eq (T : Nat → Nat) : (tallyV T).toArray = #[.int .i64 (T 0 : Int), .int .i64 (T 1 : Int), .int .i64 (T 2 : Int), .int .i64 (T 3 : Int), .int .i64 (T 4 : Int), .int .i64 (T 5 : Int), .int .i64 (T 6 : Int), .int .i64 (T 7 : Int)] := by simp [tallyV, List.range_succ]

theorem cls_zeros : cls (List.replicate 128 0) = 0 := by
  have h1 : isPage (List.replicate 128 0) = false := by
    rw [show (128 : Nat) = 124 + 1 + 1 + 1 + 1 from rfl]
    simp only [List.replicate_succ, isPage]
    simp
  have h2 : (List.replicate 128 (0 : UInt8)).all (· == 0) = true := by simp
  rw [cls, if_neg (by rw [h1]; simp), if_pos h2]

theorem count_zeros : (tallyV (cntF (fun i => cls (dataAt [] i)) 5)).toArray = #[.int .i64 5, .int .i64 0, .int .i64 0, .int .i64 0, .int .i64 0, .int .i64 0, .int .i64 0, .int .i64 0] := by
  have h : (fun i => cls (dataAt [] i)) = fun _ => 0 := funext fun i => by
    show cls (List.replicate 128 0) = 0
    exact cls_zeros
  rw [h, tallyV_eq]
  simp [cntF]

set_option maxRecDepth 100000 in
set_option maxHeartbeats 1000000 in
theorem scrubAlive_any (w : World) : Calls Try.prog 48 #[] w fun e w' => e = .returned (.bool true) ∧ Below w.heap.size w w' := by
  go_enter Try.func48, Try.ntmps48
  go_wp2_with fail
  refine (new_any 5 w (by omega) (by omega)).mono ?_
  rintro e w1 ⟨p, s, rfl, hd, hb1⟩
  have hc := count_any _ w1 p s _ 5 [] hd (fun j x h => by simp at h) (by omega) (by simp)
  rw [count_zeros] at hc
  have HC := Lib.hid hc
  clear hc hd
  go_wp2_with fail
  refine HC.out.mono ?_
  rintro e w2 ⟨rfl, hb2⟩
  have hb3 := hb1.trans (hb2.mono hb1.size)
  clear HC hb2
  go_wp2_with fail
  have hsum := sum_any (fun j => if j = 0 then 5 else 0) (w2.alloc (.cells #[.int .i64 5, .int .i64 0, .int .i64 0, .int .i64 0, .int .i64 0, .int .i64 0, .int .i64 0, .int .i64 0] 71)) (fun j => by split <;> omega)
  rw [show (tallyV fun j => if j = 0 then 5 else 0).toArray = #[.int .i64 5, .int .i64 0, .int .i64 0, .int .i64 0, .int .i64 0, .int .i64 0, .int .i64 0, .int .i64 0] by rw [tallyV_eq]; simp, show sumT (fun j => if j = 0 then 5 else 0) 7 = 5 by rfl] at hsum
  have hb4 := hb3.alloc hb3.size (.cells #[.int .i64 5, .int .i64 0, .int .i64 0, .int .i64 0, .int .i64 0, .int .i64 0, .int .i64 0, .int .i64 0] 71)
  have c7 : (w2.alloc (.cells #[.int .i64 5, .int .i64 0, .int .i64 0, .int .i64 0, .int .i64 0, .int .i64 0, .int .i64 0, .int .i64 0] 71)).cell? ⟨w2.heap.size, 7, none⟩ = some (.int .i64 0) := by simp
  have hlt : w2.heap.size < (w2.alloc (.cells #[.int .i64 5, .int .i64 0, .int .i64 0, .int .i64 0, .int .i64 0, .int .i64 0, .int .i64 0, .int .i64 0] 71)).heap.size := by simp
  generalize (w2.alloc (.cells #[.int .i64 5, .int .i64 0, .int .i64 0, .int .i64 0, .int .i64 0, .int .i64 0, .int .i64 0, .int .i64 0] 71)) = w3 at *
  refine hsum.mono ?_
  clear hsum
  rintro e w4 ⟨rfl, hb5⟩
  have c7' : w4.cell? ⟨w2.heap.size, 7, none⟩ = some (.int .i64 0) := by rw [hb5.cell hlt]; exact c7
  have hb6 := hb4.trans (hb5.mono hb4.size)
  clear hb5 c7
  go_wp2_with fail
  go_ret
  exact ⟨rfl, hb6⟩
end Go.Proofs.Ytljbehndnledpaa
