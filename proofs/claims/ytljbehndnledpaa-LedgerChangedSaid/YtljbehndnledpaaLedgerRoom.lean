/- The walk of ledger.Room. Conditions: those of each theorem. -/
import Derived.Test.YtljbehndnledpaaLongest
namespace Go.Proofs.Ytljbehndnledpaa
open Go.RowKit Go.Shelf

theorem push_int {w : World} {B : Nat} {v : Value} {zs : List Int} (h : w.ownsRow B 3 1 v zs.length (zs.map (.int .i64))) (x : Int) (hl : zs.length ≤ 1000000000) (hB : B ≤ w.heap.size) :
    ∃ v' w', (Builtin.append_ #[78, 78] 78 #[v, .slice (some ⟨w.heap.size, 0, none⟩) 1 1]).run Try.prog (w.alloc (.cells #[.int .i64 x] 3)) = .ok v' w' ∧ w'.ownsRow B 3 1 v' (zs ++ [x]).length ((zs ++ [x]).map (.int .i64)) ∧ w.grownBy w' v.ownBlock := by
  obtain ⟨i0, hi, hz0, hz1, hz2⟩ := info_parts info3q
  obtain ⟨v', w', hr, hown, hg, _⟩ := app_new (P := Try.prog) Try.underlying78 hi hz0 hz1 hz2 rfl (by decide) h 1 [.int .i64 x] rfl (by simp [Value.oneCell']) (by unfold maxLen; omega) (by omega) hB
  refine ⟨v', w', hr, ?_, hg⟩
  rw [List.length_append, List.map_append]
  exact hown

theorem runsF_ok (f : Nat → Bool) (n : Nat) (hn : n ≤ 4096) : ∀ r ∈ runsF f n, 0 ≤ r.2 ∧ r.2 ≤ 1000000 := fun r hr => by
  have := (runs_inv f n hn).2.2.2.1 r hr
  omega
theorem runsF_len (f : Nat → Bool) (n : Nat) (hn : n ≤ 4096) : (runsF f n).length ≤ n := (runs_inv f n hn).2.2.2.2

set_option maxRecDepth 100000 in
set_option maxHeartbeats 4000000 in
theorem room_any (m g n : Nat) (f : Nat → Bool) (w : World) (h : BmF w m g n f) (hn : n ≤ 4096) :
    Calls Try.prog 76 #[.pointer (some ⟨m, 0, none⟩)] w fun e w' => e = .returned (longV (longest (runsF (fun j => !f j) n))) ∧ Below w.heap.size w w' := by
  obtain ⟨T, hT, hTf⟩ := h
  have hw0 := RunAt.new w 0 0
  have hb0 : Below w.heap.size w (w.alloc (.cells #[.int .i64 0, .int .i64 0] 121)) := (Below.refl _ _).alloc (Nat.le_refl _) _
  have hT0 := hT.below hb0 (Nat.le_refl _)
  have hsz : (w.alloc (.cells #[.int .i64 0, .int .i64 0] 121)).heap.size = w.heap.size + 1 := by simp
  have hE : ofL (onesF (fun j => !f j) n) = runsF (fun j => !f j) n := ofL_ones _ _ hn
  have hok := runsF_ok (fun j => !f j) n hn
  have hkl := runsF_len (fun j => !f j) n hn
  have hol := onesF_len (fun j => !f j) n
  have HE := Lib.hid hE
  have HT := Lib.hid hT0
  have HTF := Lib.hid hTf
  have HOK := Lib.hid hok
  clear hT hT0 hTf hE hok
  go_enter Try.func76, Try.ntmps76
  go_wp2_with fail
  generalize w.alloc (.cells #[.int .i64 0, .int .i64 0] 121) = w1 at *
  refine (bmLen_any m g n T w1 HT.out).mono ?_
  rintro e w2 ⟨rfl, rfl⟩
  go_wp2_with fail
  go_loopw [4, 8] (fun u4 u8 wr => ∃ i : Nat, i ≤ n ∧ u8 = .int .i64 i ∧ wr.ownsRow w1.heap.size 3 1 u4 (onesF (fun j => !f j) i).length ((onesF (fun j => !f j) i).map (.int .i64)) ∧ Below w1.heap.size w1 wr) (fun _ u8 _ => n - (intOf u8).toNat)
  case atStart => exact ⟨0, by omega, rfl, World.ownsRow_nil _ _ _ _, Below.refl _ _⟩
  case round =>
    obtain ⟨i, hi, rfl, hown, hbw⟩ := hrel
    by_cases hlt : i < n
    · have hhas := bmHas_any m g n T i wr (HT.out.below hbw (Nat.le_refl _)) hlt (by omega)
      rw [HTF.out i hlt] at hhas
      have hs := onesF_succ (fun j => !f j) i
      have hli := onesF_len (fun j => !f j) i
      have hi2 : (i : Int) < (n : Int) := by omega
      cases hf : f i with
      | true =>
        rw [hf] at hhas
        simp only [hf] at hs
        have HS := Lib.hid hs
        have HAS := Lib.hid hhas
        have HO := Lib.hid hown
        clear hs hhas hown hf
        go_wp2_with fail
        refine HAS.out.mono ?_
        rintro e w2 ⟨rfl, rfl⟩
        go_wp2_with fail
        exact ⟨⟨i + 1, by omega, by go_num, by rw [HS.out]; simpa using HO.out, hbw⟩, by simp [intOf]; omega⟩
      | false =>
        rw [hf] at hhas
        simp only [hf] at hs
        obtain ⟨v', w', hap, hown', hgr⟩ := push_int hown ((i : Int) + 1) (by omega) hbw.size
        have hbw' := Below.own hbw hown hgr (Nat.le_refl _) hbw.size
        have hE2 : onesF (fun j => !f j) (i + 1) = onesF (fun j => !f j) i ++ [(i : Int) + 1] := by rw [hs]; rfl
        have HS := Lib.hid hE2
        have HAS := Lib.hid hhas
        have HO := Lib.hid hown'
        have s6 : IntKind.i64.wrap ((i : Int) + 1) = (i : Int) + 1 := IntWalk.i64_in _ (by omega)
        clear hs hhas hown hown' hf hgr hE2
        go_wp2_with fail
        refine HAS.out.mono ?_
        rintro e w2 ⟨rfl, rfl⟩
        go_wp2_with (at_builtin; refine wpList_append_run rfl _ _ _ rfl hap ?_)
        exact ⟨⟨i + 1, by omega, by go_num, by rw [HS.out]; exact HO.out, hbw'⟩, by simp [intOf]; omega⟩
    · obtain rfl : i = n := by omega
      obtain ⟨a, cap, rfl, hs, -⟩ := own_sl hown
      have hz1 := hw0.below hbw (by omega)
      have hbw0 := hb0.trans (hbw.mono hb0.size)
      clear hown
      go_wp2_with fail
      refine (of_any a _ cap _ wr hs (by omega)).mono ?_
      rw [HE.out]
      rintro e w2 ⟨v, rfl, ho, hb2⟩
      obtain ⟨a2, cap2, rfl, hr, -⟩ := ho.runs
      clear ho
      have hz2 := hz1.below hb2 hz1.lt
      have hbw2 := hbw0.trans (hb2.mono hbw0.size)
      go_wp2_with fail
      refine (longest_any a2 _ cap2 _ w2 hr (by omega) HOK.out).mono ?_
      rintro e w3 ⟨rfl, hb3⟩
      have hz3 := hz2.below hb3 hz2.lt
      have hbw3 := hbw2.trans (hb3.mono hbw2.size)
      obtain ⟨z0, z1, z2, z3⟩ := hz3.cells
      cases hlo : longest (runsF (fun j => !f j) i) with
      | none =>
        have hset := hz3.set 0 0
        obtain ⟨s0, s1, -, -⟩ := hset.cells
        have HLO := Lib.hid hlo
        clear hlo hr hs
        unfold longV
        go_wp2_with fail
        refine bodyPost_ret (res76 _ w.heap.size _ _ _ _ rfl rfl s0 s1) rfl ?_
        exact ⟨by rw [HLO.out]; rfl, (hbw3.setCell (p := ⟨w.heap.size, 0, none⟩) (Nat.le_refl _) _).setCell (p := ⟨w.heap.size, 1, none⟩) (Nat.le_refl _) _⟩
      | some b =>
        have hset := hz3.set b.1 b.2
        obtain ⟨s0, s1, -, -⟩ := hset.cells
        have HLO := Lib.hid hlo
        clear hlo hr hs
        unfold longV
        go_wp2_with fail
        refine bodyPost_ret (res76 _ w.heap.size _ _ _ _ rfl rfl s0 s1) rfl ?_
        exact ⟨by rw [HLO.out]; rfl, (hbw3.setCell (p := ⟨w.heap.size, 0, none⟩) (Nat.le_refl _) _).setCell (p := ⟨w.heap.size, 1, none⟩) (Nat.le_refl _) _⟩
end Go.Proofs.Ytljbehndnledpaa
