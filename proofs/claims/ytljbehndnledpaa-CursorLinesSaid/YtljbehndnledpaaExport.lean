/- The walks of export.right, yesteryearlaw52.right, fix.Put at one byte. Conditions: those of each theorem. -/
import Derived.Test.YtljbehndnledpaaUnpack
namespace Go.Proofs.Ytljbehndnledpaa
open Go.RowKit

/-- May a tape be? -/
def rightT (z : Int) (n : Nat) : Bool := decide (1 ≤ z ∧ z ≤ 32 ∧ (n : Int) = 64 * z)

set_option maxRecDepth 100000 in
set_option maxHeartbeats 1000000 in
theorem right_any (z : Int) (a : Option Addr) (n cap : Nat) (w : World) (r : Bool) (hr : Hid (rightT z n = r)) :
    Calls Try.prog 102 #[.agg #[.int .i64 z, .slice a n cap]] w fun e w' => e = .returned (.bool r) ∧ Below w.heap.size w w' := by
  have hrr := hr.out
  clear hr
  by_cases h1 : 1 ≤ z
  · by_cases h2 : z ≤ 32
    · by_cases h3 : (n : Int) = z * 64
      · have : r = true := by rw [← hrr]; exact decide_eq_true ⟨h1, h2, by omega⟩
        subst this
        clear hrr
        have h4 : ((n : Int) == z * 64) = true := by simpa using h3
        clear h3
        go_enter Try.func102, Try.ntmps102
        go_wp2_with fail
        go_ret
        exact ⟨rfl, (Below.refl _ _).alloc (Nat.le_refl _) _⟩
      · have : r = false := by rw [← hrr]; exact decide_eq_false (fun h => h3 (by omega))
        subst this
        clear hrr
        have h4 : ((n : Int) == z * 64) = false := by simpa using h3
        clear h3
        go_enter Try.func102, Try.ntmps102
        go_wp2_with fail
        go_ret
        exact ⟨rfl, (Below.refl _ _).alloc (Nat.le_refl _) _⟩
    · have : r = false := by rw [← hrr]; exact decide_eq_false (fun h => by omega)
      subst this
      clear hrr
      go_enter Try.func102, Try.ntmps102
      go_wp2_with fail
      go_ret
      exact ⟨rfl, (Below.refl _ _).alloc (Nat.le_refl _) _⟩
  · have : r = false := by rw [← hrr]; exact decide_eq_false (fun h => by omega)
    subst this
    clear hrr
    go_enter Try.func102, Try.ntmps102
    go_wp2_with fail
    go_ret
    exact ⟨rfl, (Below.refl _ _).alloc (Nat.le_refl _) _⟩

set_option maxRecDepth 100000 in
set_option maxHeartbeats 1000000 in
theorem refRight_any (z : Int) (a : Option Addr) (n cap : Nat) (w : World) (r : Bool) (hr : Hid (rightT z n = r)) :
    Calls Try.prog 38 #[.agg #[.int .i64 z, .slice a n cap]] w fun e w' => e = .returned (.bool r) ∧ Below w.heap.size w w' := by
  have hrr := hr.out
  clear hr
  by_cases h1 : 1 ≤ z
  · by_cases h2 : z ≤ 32
    · by_cases h3 : (n : Int) = 64 * z
      · have : r = true := by rw [← hrr]; exact decide_eq_true ⟨h1, h2, by omega⟩
        subst this
        clear hrr
        have h4 : ((n : Int) == 64 * z) = true := by simpa using h3
        clear h3
        go_enter Try.func38, Try.ntmps38
        go_wp2_with fail
        go_ret
        exact ⟨rfl, (Below.refl _ _).alloc (Nat.le_refl _) _⟩
      · have : r = false := by rw [← hrr]; exact decide_eq_false (fun h => h3 (by omega))
        subst this
        clear hrr
        have h4 : ((n : Int) == 64 * z) = false := by simpa using h3
        clear h3
        go_enter Try.func38, Try.ntmps38
        go_wp2_with fail
        go_ret
        exact ⟨rfl, (Below.refl _ _).alloc (Nat.le_refl _) _⟩
    · have : r = false := by rw [← hrr]; exact decide_eq_false (fun h => by omega)
      subst this
      clear hrr
      go_enter Try.func38, Try.ntmps38
      go_wp2_with fail
      go_ret
      exact ⟨rfl, (Below.refl _ _).alloc (Nat.le_refl _) _⟩
  · have : r = false := by rw [← hrr]; exact decide_eq_false (fun h => by omega)
    subst this
    clear hrr
    go_enter Try.func38, Try.ntmps38
    go_wp2_with fail
    go_ret
    exact ⟨rfl, (Below.refl _ _).alloc (Nat.le_refl _) _⟩

set_option maxRecDepth 100000 in
set_option maxHeartbeats 1000000 in
/-- One byte behind none. -/
theorem put1_any (k : Nat) (w : World) (hk : k ≤ 200) :
    Calls Try.prog 103 #[.slice none 0 0, .int .u64 k, .int .i64 1] w fun e w' => ∃ v, e = .returned v ∧ w'.ownsRow w.heap.size 5 1 v [UInt8.ofNat k].length (cellsOfB [UInt8.ofNat k]) ∧ Below w.heap.size w w' := by
  have hbyte : ((k : Nat) : Int) = ((UInt8.ofNat k).toNat : Int) := by rw [UInt8.toNat_ofNat']; omega
  go_enter Try.func103, Try.ntmps103
  go_wp2_with fail
  go_loopw [0, 10] (fun u0 u10 wr => (u0 = .slice none 0 0 ∧ u10 = .int .i64 0 ∧ w = wr) ∨ (u10 = .int .i64 1 ∧ wr.ownsRow w.heap.size 5 1 u0 [UInt8.ofNat k].length (cellsOfB [UInt8.ofNat k]) ∧ Below w.heap.size w wr)) (fun _ u10 _ => 1 - (intOf u10).toNat)
  case atStart => exact .inl ⟨rfl, rfl, rfl⟩
  case round =>
    rcases hrel with ⟨rfl, rfl, rfl⟩ | ⟨rfl, hown, hbw⟩
    · have hnil : w.ownsRow w.heap.size 5 1 (.slice none 0 0) ([] : List UInt8).length (cellsOfB []) := World.ownsRow_nil _ _ _ _
      obtain ⟨v', w', hap, hown', hgr⟩ := app_byte hnil _ (UInt8.ofNat k) hbyte (by simp) (Nat.le_refl _)
      have hbw' := Below.own (Below.refl _ _) hnil hgr (Nat.le_refl _) (Nat.le_refl _)
      clear hbyte hgr hnil
      have hw8 : IntKind.u8.wrap (k : Int) = k := by rw [IntKind.wrap_u8']; omega
      go_wp2_with (at_builtin; refine wpList_append_run rfl _ _ _ rfl hap ?_)
      exact ⟨.inr ⟨by go_num, hown', hbw'⟩, by simp [intOf]⟩
    · go_wp2_with fail
      go_ret
      exact ⟨_, rfl, hown, hbw⟩
end Go.Proofs.Ytljbehndnledpaa
