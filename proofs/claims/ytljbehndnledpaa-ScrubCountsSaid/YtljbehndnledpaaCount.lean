/- The walk of scrub.Count. Conditions: those of the theorem. -/
import Derived.Test.YtljbehndnledpaaTally
namespace Go.Proofs.Ytljbehndnledpaa
open Go.RowKit

/-- What a sector is: its page's kind; 0: noughts; 7: neither. -/
def cls (l : List UInt8) : Nat := if isPage l = true then (l.getD 2 0).toNat else if l.all (· == 0) = true then 0 else 7
/-- How many of the first k are j. -/
def cntF (f : Nat → Nat) : Nat → Nat → Nat
  | 0, _ => 0
  | k + 1, j => cntF f k j + if f k = j then 1 else 0
theorem cntF_le (f : Nat → Nat) : ∀ k j, cntF f k j ≤ k
  | 0, _ => Nat.le_refl _
  | k + 1, j => by
    have := cntF_le f k j
    simp only [cntF]
    split <;> omega

theorem isPage_kind {l : List UInt8} (h : isPage l = true) : 1 ≤ (l.getD 2 0).toNat ∧ (l.getD 2 0).toNat ≤ 6 := by
  unfold isPage at h
  split at h
  · simp only [Bool.and_eq_true, decide_eq_true_eq] at h
    exact ⟨h.1.1.1, h.1.1.2⟩
  · cases h

theorem tally_step {w w5 : World} {f : Nat → Nat} {k kd : Nat} (hcl : f k = kd) (hkd : kd < 8) (s2 : Tally w5 w.heap.size (fun _ => 0)) (s3 : Tally w5 (w.heap.size + 1) (cntF f k)) (hb : Below w.heap.size w w5) (hk : k ≤ 100000) :
    w5.cell? ⟨w.heap.size + 1, kd, none⟩ = some (.int .i64 (cntF f k kd : Int)) ∧ w5.frozen? ⟨w.heap.size + 1, kd, none⟩ = false ∧ cntF f k kd ≤ k ∧ IntKind.i64.wrap ((cntF f k kd : Int) + 1) = (cntF f k kd : Int) + 1 ∧
    Tally (w5.setCell ⟨w.heap.size + 1, kd, none⟩ (.int .i64 ((cntF f k kd : Int) + 1))) (w.heap.size + 1) (cntF f (k + 1)) ∧
    Tally (w5.setCell ⟨w.heap.size + 1, kd, none⟩ (.int .i64 ((cntF f k kd : Int) + 1))) w.heap.size (fun _ => 0) ∧
    Below w.heap.size w (w5.setCell ⟨w.heap.size + 1, kd, none⟩ (.int .i64 ((cntF f k kd : Int) + 1))) := by
  have hle := cntF_le f k kd
  exact ⟨(s3 kd hkd).1, (s3 kd hkd).2, hle, IntWalk.i64_in _ (by omega), (s3.add kd 1).congr (fun j _ => by simp only [cntF, hcl]), s2.heap (Below.heap_setCell _ _ _ _ (by simp)), hb.setCell (p := ⟨w.heap.size + 1, kd, none⟩) (Nat.le_succ _) _⟩

set_option maxRecDepth 100000 in
set_option maxHeartbeats 4000000 in
theorem count_any (base : Nat) (w : World) (p s : Nat) (lv : Value) (n : Nat) (late : List (Nat × List UInt8)) (hd : Disk base w p s lv n late) (hidx : ∀ (j : Nat) (x : Nat × List UInt8), late[j]? = some x → x.1 = j) (hn : n ≤ 4096) (hl : late.length ≤ 100000) :
    Calls Try.prog 46 #[.pointer (some ⟨p, 0, none⟩)] w fun e w' => e = .returned (.agg (tallyV (cntF (fun i => cls (dataAt late i)) n)).toArray) ∧ Below w.heap.size w w' := by
  have HD := Lib.hid hd
  have HI := Lib.hid hidx
  clear hd hidx
  obtain ⟨f, hf⟩ : ∃ f : Nat → Nat, f = fun i => cls (dataAt late i) := ⟨_, rfl⟩
  rw [← hf]
  have HF := Lib.hid hf
  clear hf
  go_enter Try.func46, Try.ntmps46
  go_wp2_with fail
  have q2 : Tally ((w.alloc (.cells #[.int .i64 0, .int .i64 0, .int .i64 0, .int .i64 0, .int .i64 0, .int .i64 0, .int .i64 0, .int .i64 0] 71)).alloc (.cells #[.int .i64 0, .int .i64 0, .int .i64 0, .int .i64 0, .int .i64 0, .int .i64 0, .int .i64 0, .int .i64 0] 71)) w.heap.size (fun _ => 0) := (Tally.new w 71 (fun _ => 0) #[.int .i64 0, .int .i64 0, .int .i64 0, .int .i64 0, .int .i64 0, .int .i64 0, .int .i64 0, .int .i64 0] rfl).below ((Below.refl _ _).alloc (Nat.le_refl _) _) (by simp)
  have q3 : Tally ((w.alloc (.cells #[.int .i64 0, .int .i64 0, .int .i64 0, .int .i64 0, .int .i64 0, .int .i64 0, .int .i64 0, .int .i64 0] 71)).alloc (.cells #[.int .i64 0, .int .i64 0, .int .i64 0, .int .i64 0, .int .i64 0, .int .i64 0, .int .i64 0, .int .i64 0] 71)) (w.heap.size + 1) (fun _ => 0) := by
    have := Tally.new (w.alloc (.cells #[.int .i64 0, .int .i64 0, .int .i64 0, .int .i64 0, .int .i64 0, .int .i64 0, .int .i64 0, .int .i64 0] 71)) 71 (fun _ => 0) #[.int .i64 0, .int .i64 0, .int .i64 0, .int .i64 0, .int .i64 0, .int .i64 0, .int .i64 0, .int .i64 0] rfl
    simpa using this
  have hb2 : Below w.heap.size w ((w.alloc (.cells #[.int .i64 0, .int .i64 0, .int .i64 0, .int .i64 0, .int .i64 0, .int .i64 0, .int .i64 0, .int .i64 0] 71)).alloc (.cells #[.int .i64 0, .int .i64 0, .int .i64 0, .int .i64 0, .int .i64 0, .int .i64 0, .int .i64 0, .int .i64 0] 71)) := ((Below.refl _ _).alloc (Nat.le_refl _) _).alloc (by simp) _
  generalize (w.alloc (.cells #[.int .i64 0, .int .i64 0, .int .i64 0, .int .i64 0, .int .i64 0, .int .i64 0, .int .i64 0, .int .i64 0] 71)).alloc (.cells #[.int .i64 0, .int .i64 0, .int .i64 0, .int .i64 0, .int .i64 0, .int .i64 0, .int .i64 0, .int .i64 0] 71) = w2 at *
  refine (len_any p s n w2 (HD.out.below hb2).c0).mono ?_
  rintro e w3 ⟨rfl, rfl⟩
  go_wp2_with fail
  go_loopw [12] (fun u12 wr => ∃ k : Nat, k ≤ n ∧ u12 = .int .i64 k ∧ Tally wr w.heap.size (fun _ => 0) ∧ Tally wr (w.heap.size + 1) (cntF f k) ∧ Below w.heap.size w wr) (fun u12 _ => n - (intOf u12).toNat)
  case atStart => exact ⟨0, by omega, rfl, q2, q3, hb2⟩
  case round =>
    clear q2 q3 hb2
    obtain ⟨k, hk, rfl, q2, q3, hbw⟩ := hrel
    by_cases hlt : k < n
    · have hfk : f k = cls (dataAt late k) := by rw [HF.out]
      have hrd := diskRead_any base wr p s lv n late k (HD.out.below hbw) HI.out hlt hl
      have hle := cntF_le f k
      generalize dataAt late k = data at *
      have HRD := Lib.hid hrd
      have HFK := Lib.hid hfk
      clear hrd hfk
      go_wp2_with fail
      refine HRD.out.mono ?_
      clear HRD
      rintro e w4 ⟨⟨g, c, rfl, hcc, hbs⟩, hb4⟩
      have r2 := q2.below hb4 q2.lt
      have r3 := q3.below hb4 q3.lt
      have hb5 := hbw.trans (hb4.mono hbw.size)
      have hpg := pageGet_any g 0 c data w4 hbs hcc
      have HPG := Lib.hid hpg
      have HBS := Lib.hid hbs
      clear hpg hbs hb4 q2 q3 hbw
      go_wp2_with fail
      refine HPG.out.mono ?_
      clear HPG
      rintro e w5 ⟨hb6, kd, v, fe, rfl, hcase⟩
      have s2 := r2.below hb6 r2.lt
      have s3 := r3.below hb6 r3.lt
      have hb7 := hb5.trans (hb6.mono hb5.size)
      have hbs5 : Bs w5 (some ⟨g, 0, none⟩) 128 data := HBS.out.below hb6 (Nat.le_refl _)
      clear hb6 r2 r3 hb5 HBS
      rcases hcase with ⟨hp, rfl, rfl⟩ | ⟨hp, hfe⟩
      · have hkind := isPage_kind hp
        have hcl : f k = (data.getD 2 0).toNat := by rw [HFK.out, cls, if_pos hp]
        generalize (data.getD 2 0).toNat = kd at *
        obtain ⟨c3, f3, hT, hw, hadd, hap, hbn⟩ := tally_step hcl (by omega) s2 s3 hb7 (by omega)
        have hk0 : (0 : Int) ≤ (kd : Int) := by omega
        have hk1 : (kd : Int) < 7 := by omega
        generalize cntF f k kd = tk at *
        have HADD := Lib.hid hadd
        clear hadd hbs5 s2 s3 hle
        go_wp2_with fail
        exact ⟨⟨k + 1, by omega, by go_num, hap, HADD.out, hbn⟩, by simp [intOf]; omega⟩
      · have hfe2 : ((fe : Int) == 0) = false := by rw [beq_eq_false_iff_ne]; omega
        have hbl := blank_any (some ⟨g, 0, none⟩) 128 c data w5 hbs5 (by omega)
        obtain ⟨z, hz⟩ : ∃ z, data.all (· == 0) = z := ⟨_, rfl⟩
        rw [hz] at hbl
        have HBL := Lib.hid hbl
        cases z
        · have hcl : f k = 7 := by rw [HFK.out, cls, if_neg (by rw [hp]; simp), if_neg (by rw [hz]; simp)]
          obtain ⟨c3, f3, hT, hw, hadd, hap, hbn⟩ := tally_step hcl (by omega) s2 s3 hb7 (by omega)
          generalize cntF f k 7 = tk at *
          have HADD := Lib.hid hadd
          clear hadd hbs5 s2 s3 hle hbl hz
          go_wp2_with fail
          refine HBL.out.mono ?_
          rintro e w6 ⟨rfl, rfl⟩
          go_wp2_with fail
          exact ⟨⟨k + 1, by omega, by go_num, hap, HADD.out, hbn⟩, by simp [intOf]; omega⟩
        · have hcl : f k = 0 := by rw [HFK.out, cls, if_neg (by rw [hp]; simp), if_pos hz]
          obtain ⟨c3, f3, hT, hw, hadd, hap, hbn⟩ := tally_step hcl (by omega) s2 s3 hb7 (by omega)
          generalize cntF f k 0 = tk at *
          have HADD := Lib.hid hadd
          clear hadd hbs5 s2 s3 hle hbl hz
          go_wp2_with fail
          refine HBL.out.mono ?_
          rintro e w6 ⟨rfl, rfl⟩
          go_wp2_with fail
          exact ⟨⟨k + 1, by omega, by go_num, hap, HADD.out, hbn⟩, by simp [intOf]; omega⟩
    · have hkn : k = n := by omega
      subst hkn
      have hs := Tally.stored q2 (cntF f k)
      have hb := Below.setCells' hbw (Nat.le_refl w.heap.size) (tallyV (cntF f k)) 0
      go_wp2_with (first
        | ((with_reducible show wpList _ _ _ ({ dst := _, op := Op.load _ _, type := _, pos := _, after := _, guard := _ } :: _) _ _); refine wpl_load71 rfl _ rfl _ rfl _ q3 ?_)
        | ((with_reducible show wpList _ _ _ ({ dst := _, op := Op.store _ _ _, type := _, pos := _, after := _, guard := _ } :: _) _ _); refine wpl_store71 rfl _ _ rfl _ rfl _ rfl _ q2 ?_))
      refine bodyPost_ret (res46 _ w.heap.size _ _ rfl hs) rfl ?_
      exact ⟨rfl, hb⟩
end Go.Proofs.Ytljbehndnledpaa
