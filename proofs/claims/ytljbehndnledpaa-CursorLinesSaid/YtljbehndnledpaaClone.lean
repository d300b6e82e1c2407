/- A clone of bytes; the walks of slices.Clone and yesteryearref01.Put (of four bytes). Conditions: those of each theorem. -/
import Derived.Test.YtljbehndnledpaaStep
import Derived.Test.YtljbehndnledpaaCrcGo
import Derived.Test.YtljbehndnledpaaUnpack
namespace Go.Proofs.Ytljbehndnledpaa
open Go.RowKit

set_option maxRecDepth 100000 in
set_option maxHeartbeats 1000000 in
theorem clone_any (b o n cap : Nat) (l : List UInt8) (w : World) (h : Bs w (some ⟨b, o, none⟩) n l) (hn : n ≤ 10000000000) :
    Calls Try.prog 108 #[.slice (some ⟨b, o, none⟩) n cap] w fun e w' => ∃ v, e = .returned v ∧ w'.ownsRow w.heap.size 5 1 v l.length (cellsOfB l) ∧ Below w.heap.size w w' := by
  obtain ⟨v', w', hap, ho, hb⟩ := clone_run cap h hn
  have q22 : (binOp .eql 37 (.slice (some ⟨b, o, none⟩) n cap) (.slice none 0 0)).run Try.prog w = .ok (.bool false) w := Lib.run_eql_slice_nil w _ _ _ n cap 0 0 Try.underlying37
  go_enter Try.func108, Try.ntmps108
  go_wp2_with (at_builtin; refine wpList_append_run rfl _ _ _ rfl hap ?_)
  go_ret
  exact ⟨v', rfl, ho, hb⟩

/-- The lowest bytes of a number, the lowest first. -/
def leN (k x : Nat) : List UInt8 := (List.range k).map fun i => UInt8.ofNat (x / 256 ^ i)
theorem leN_succ (k x : Nat) : leN (k + 1) x = leN k x ++ [UInt8.ofNat (x / 256 ^ k)] := by simp [leN, List.range_succ]
theorem leN_length (k x : Nat) : (leN k x).length = k := by simp [leN]

set_option maxRecDepth 100000 in
set_option maxHeartbeats 1000000 in
theorem refPut_any (b o n cap x : Nat) (l : List UInt8) (w : World) (h : Bs w (some ⟨b, o, none⟩) n l) (hn : n ≤ 1000000000) (hx : x < 18446744073709551616) :
    Calls Try.prog 154 #[.slice (some ⟨b, o, none⟩) n cap, .int .u64 (x : Int), .int .i64 4] w fun e w' => ∃ v, e = .returned v ∧ w'.ownsRow w.heap.size 5 1 v (l ++ leN 4 x).length (cellsOfB (l ++ leN 4 x)) ∧ Below w.heap.size w w' := by
  obtain ⟨v0, w0, hap0, ho0, hb0⟩ := clone_run cap h (by omega)
  have HL := Lib.hid h.length
  clear h
  go_enter Try.func154, Try.ntmps154
  go_wp2_with (at_builtin; refine wpList_append_run rfl _ _ _ rfl hap0 ?_)
  go_loopw [1, 7, 8] (fun u1 u7 u8 wr => ∃ k : Nat, k ≤ 4 ∧ u8 = .int .i64 k ∧ u1 = .int .u64 (x / 256 ^ k : Nat) ∧ wr.ownsRow w.heap.size 5 1 u7 (l ++ leN k x).length (cellsOfB (l ++ leN k x)) ∧ Below w.heap.size w wr) (fun _ _ u8 _ => 4 - (intOf u8).toNat)
  case atStart => exact ⟨0, by omega, rfl, by simp, by simpa [leN] using ho0, hb0⟩
  case round =>
    obtain ⟨k, hk, rfl, rfl, hown, hbw⟩ := hrel
    by_cases hlt : k < 4
    · have hd : x / 256 ^ (k + 1) = (x / 256 ^ k) / 256 := by rw [Nat.pow_succ, Nat.div_div_eq_div_mul]
      have hs := leN_succ k x
      have hll : (l ++ leN k x).length = n + k := by rw [List.length_append, leN_length, HL.out]
      have hql : x / 256 ^ k ≤ x := Nat.div_le_self _ _
      generalize x / 256 ^ k = q at *
      have hw2 : IntKind.u64.wrap ((q : Int) / 256) = (q : Int) / 256 := by simp only [IntKind.wrap, IntKind.bits, IntKind.signed]; simp; omega
      have hq : ((q : Int) % 256) = ((UInt8.ofNat q).toNat : Int) := by rw [UInt8.toNat_ofNat']; omega
      have hw : IntKind.u8.wrap ((q : Int) % 256) = (q : Int) % 256 := by rw [IntKind.wrap_u8']; omega
      obtain ⟨v', w', hap, hown', hgr⟩ := app_byte hown ((q : Int) % 256) (UInt8.ofNat q) hq (by omega) hbw.size
      have hbw' := Below.own hbw hown hgr (Nat.le_refl _) hbw.size
      rw [List.append_assoc, ← hs] at hown'
      have HD := Lib.hid hd
      have HO := Lib.hid hown'
      clear hd hs hq hown hown' hgr hll
      go_wp2_with (at_builtin; refine wpList_append_run rfl _ _ _ rfl hap ?_)
      exact ⟨⟨k + 1, by omega, by go_num, by rw [HD.out]; simp, HO.out, hbw'⟩, by simp [intOf]; omega⟩
    · have : k = 4 := by omega
      subst this
      go_wp2_with fail
      go_ret
      exact ⟨u7, rfl, hown, hbw⟩
end Go.Proofs.Ytljbehndnledpaa
