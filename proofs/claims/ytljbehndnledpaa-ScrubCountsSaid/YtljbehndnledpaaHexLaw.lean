/- The walk of the law TextHex: it returns true and writes nothing that was there. No condition but that the arguments read as bytes and a text. -/
import Derived.Test.YtljbehndnledpaaUnhex
import Derived.Test.YtljbehndnledpaaNumsLaw
namespace Go.Proofs.Ytljbehndnledpaa
open Go.RowKit

theorem bs_of_row {w : World} {a : Option Addr} {len cap : Nat} {zs : List Int} (h : IsRow .u8 w a len cap zs) : ∃ l, Bs w a len l := by
  have h1 := h.is
  have h2 := h.wf
  refine ⟨(zs.take len).map fun z => UInt8.ofNat z.toNat, ?_⟩
  have e : ((zs.take len).map fun z => UInt8.ofNat z.toNat).map (fun c => (c.toNat : Int)) = zs.take len := by
    rw [List.map_map]
    conv => rhs; rw [← List.map_id (zs.take len)]
    apply List.map_congr_left
    intro z hz
    have := h2 z hz
    simp [Lit.wf, IntKind.min, IntKind.max, IntKind.signed, IntKind.bits] at this
    simp only [Function.comp_apply, UInt8.toNat_ofNat', id_eq]
    omega
  unfold Bs
  rw [e]
  exact h1

theorem str_eta (s : ByteArray) : s = ⟨s.data.toList.toArray⟩ := by apply ByteArray.ext; simp

theorem isHex_iff (c : UInt8) : isHex c = true ↔ (48 ≤ c.toNat ∧ c.toNat ≤ 57) ∨ (97 ≤ c.toNat ∧ c.toNat ≤ 102) := by
  unfold isHex halfV
  by_cases h1 : 48 ≤ c.toNat ∧ c.toNat ≤ 57
  · simp [h1]
  · rw [if_neg h1]
    by_cases h2 : 97 ≤ c.toNat ∧ c.toNat ≤ 102 <;> simp [h1, h2]

/-- What the loop over the letters of a text knows. -/
def BadRel (s : ByteArray) (u10 u11 : Value) : Prop :=
  ∃ (k : Nat) (bd : Bool), k ≤ s.size ∧ u11 = .int .i64 k ∧ u10 = .bool bd ∧ Hid (bd = (decide (s.size % 2 = 1) || !(s.data.toList.take k).all isHex))

theorem bad_step {s : ByteArray} {k : Nat} {bd bd' : Bool} (hlt : k < s.size) (h : Hid (bd = (decide (s.size % 2 = 1) || !(s.data.toList.take k).all isHex))) (hb : bd' = (bd || !isHex s[k])) :
    Hid (bd' = (decide (s.size % 2 = 1) || !(s.data.toList.take (k + 1)).all isHex)) := by
  refine Lib.hid ?_
  rw [hb, h.out, take_snoc s k hlt, List.all_append]
  cases decide (s.size % 2 = 1) <;> cases (s.data.toList.take k).all isHex <;> simp

set_option maxRecDepth 100000 in
set_option maxHeartbeats 2000000 in
theorem textHexLaw (a : Option Addr) (n cap : Nat) (l : List UInt8) (s : ByteArray) (w : World) (hb : Bs w a n l) :
    Calls Try.prog 6 #[.slice a n cap, .string s] w fun e w' => e = .returned (.bool true) ∧ Below w.heap.size w w' := by
  by_cases hbig : 200 < n ∨ 200 < s.size
  · rcases (by omega : 200 < n ∨ (n ≤ 200 ∧ 200 < s.size)) with h | ⟨h, h'⟩
    all_goals
      go_enter Try.func6, Try.ntmps6
      go_wp2_with fail
      go_ret
      exact ⟨rfl, Below.refl _ _⟩
  · have hn : n ≤ 200 := by omega
    have hsz : s.size ≤ 200 := by omega
    have hll : l.length = n := by have := hb.len; simpa using this
    go_enter Try.func6, Try.ntmps6
    go_wp2_with fail
    refine (hex_any a n cap l _ hb (by omega)).mono ?_
    rintro e w1 ⟨rfl, hb1⟩
    go_wp2_with fail
    have hsh : (⟨(hexL l).toArray⟩ : ByteArray).size ≤ 1000000000 := by show (hexL l).toArray.size ≤ _; rw [List.size_toArray, hexL_len]; omega
    refine (unhex_any ⟨(hexL l).toArray⟩ w1 hsh).mono ?_
    rintro e w2 ⟨hb2, h2⟩
    have h2' : ∃ v, e = .returned (.tuple #[v, .int .i64 0]) ∧ w2.ownsRow w1.heap.size 5 1 v l.length (cellsOfB l) := by
      have hu : unhex (⟨(hexL l).toArray⟩ : ByteArray).data.toList = some l := unhex_hexL l
      rcases h2 with ⟨h, _⟩ | ⟨b, v, h, he, ho⟩
      · rw [hu] at h; cases h
      · rw [hu] at h; cases h; exact ⟨v, he, ho⟩
    clear h2
    obtain ⟨v, rfl, hown⟩ := h2'
    rw [hll] at hown
    obtain ⟨av, cv, rfl, hbv, _⟩ := own_bs hown
    have hbw2 : Below w.heap.size w w2 := hb1.trans (hb2.mono hb1.size)
    have hb' : Bs w2 a n l := hb.below hbw2 (Nat.le_refl _)
    go_wp2_with fail
    refine (refHex_any a n cap l _ hb' (by omega)).mono ?_
    rintro e w3 ⟨rfl, hb3⟩
    have hbw3 : Below w.heap.size w w3 := hbw2.trans (hb3.mono hbw2.size)
    have hb'' : Bs w3 a n l := hb.below hbw3 (Nat.le_refl _)
    have hbv' : Bs w3 av n l := hbv.below hb3 (Nat.le_refl _)
    go_wp2_with fail
    refine (bytesEq_any _ _ _ _ _ _ l l _ hbv' hb'').mono ?_
    rintro e w4 ⟨rfl, rfl⟩
    rw [beq_self_eq_true]
    go_wp2_with fail
    refine (unhex_any s _ (by omega)).mono ?_
    rintro e w4 ⟨hb4, h4⟩
    have hbw4 : Below w.heap.size w w4 := hbw3.trans (hb4.mono hbw3.size)
    rcases h4 with ⟨hnone, rfl⟩ | ⟨b, v, hsome, rfl, hown4⟩
    · have HN := Lib.hid (unhex_none _ hnone)
      clear hnone
      go_wp2_with fail
      go_loop [10, 11] (fun u10 u11 => BadRel s u10 u11) (fun _ u11 => s.size - (intOf u11).toNat)
      case atStart =>
        refine ⟨0, (s.size : Int) % 2 == 1, by omega, rfl, rfl, Lib.hid ?_⟩
        rw [List.take_zero, List.all_nil, Bool.not_true, Bool.or_false]
        by_cases h : s.size % 2 = 1
        · rw [decide_eq_true h, beq_iff_eq]; omega
        · rw [decide_eq_false h, beq_eq_false_iff_ne]; omega
      case round =>
        obtain ⟨k, bd, hk, rfl, rfl, HB⟩ := hrel
        by_cases hlt : k < s.size
        · have hx : s[k].toNat < 256 := UInt8.toNat_lt _
          cases bd with
          | true =>
            go_wp2_with fail
            exact ⟨⟨k + 1, true, by omega, by go_num, rfl, bad_step hlt HB rfl⟩, by simp [intOf]; omega⟩
          | false =>
            have hh := isHex_iff s[k]
            cases hd : isHex s[k] with
            | true =>
              have hb1 := bad_step (bd' := false) hlt HB (by rw [hd]; rfl)
              rcases hh.1 hd with ⟨h1, h2⟩ | ⟨h1, h2⟩
              all_goals
                clear hh hd
                go_wp2_with fail
                exact ⟨⟨k + 1, false, by omega, by go_num, by first | rfl | exact congrArg Value.bool (by simp; omega), hb1⟩, by simp [intOf]; omega⟩
            | false =>
              have hb1 := bad_step (bd' := true) hlt HB (by rw [hd]; rfl)
              have hno : ¬ ((48 ≤ s[k].toNat ∧ s[k].toNat ≤ 57) ∨ (97 ≤ s[k].toNat ∧ s[k].toNat ≤ 102)) := fun h => by rw [hh.2 h] at hd; cases hd
              rcases (by omega : s[k].toNat < 48 ∨ (58 ≤ s[k].toNat ∧ s[k].toNat < 97) ∨ 103 ≤ s[k].toNat) with h1 | ⟨h1, h2⟩ | h1
              all_goals
                clear hh hd hno
                go_wp2_with fail
                exact ⟨⟨k + 1, true, by omega, by go_num, by first | rfl | exact congrArg Value.bool (by simp; omega), hb1⟩, by simp [intOf]; omega⟩
        · obtain rfl : k = s.size := by omega
          have hbt : bd = true := by
            rw [HB.out, take_all]
            rcases HN.out with h | h
            · rw [bytes_len] at h; simp [h]
            · rw [h]; simp
          subst hbt
          go_wp2_with fail
          refine (textAlive _).mono ?_
          rintro e w6 ⟨rfl, hb6⟩
          go_wp2_with fail
          go_ret
          exact ⟨rfl, hbw4.trans (hb6.mono hbw4.size)⟩
    · have HS := Lib.hid (hexL_unhex _ _ hsome)
      have hbl : b.length ≤ 200 := by
        have h1 := congrArg List.length HS.out
        rw [hexL_len, bytes_len] at h1
        omega
      obtain ⟨ab, cb, rfl, hbb, _⟩ := own_bs hown4
      clear hsome
      go_wp2_with fail
      refine (refHex_any ab b.length cb b _ hbb (by omega)).mono ?_
      rintro e w5 ⟨rfl, hb5⟩
      rw [HS.out, ← str_eta]
      go_wp2_with fail
      refine (textAlive _).mono ?_
      rintro e w6 ⟨rfl, hb6⟩
      go_wp2_with fail
      go_ret
      have h5 := hbw4.trans (hb5.mono hbw4.size)
      exact ⟨rfl, h5.trans (hb6.mono h5.size)⟩
end Go.Proofs.Ytljbehndnledpaa
