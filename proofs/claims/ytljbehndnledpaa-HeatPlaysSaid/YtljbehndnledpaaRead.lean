/- The walks of text.Read, yesteryearref08.Read: a text as a number. Conditions: those of each theorem. -/
import Derived.Test.YtljbehndnledpaaNum
namespace Go.Proofs.Ytljbehndnledpaa
open Go.RowKit

theorem take_snoc (s : ByteArray) (k : Nat) (h : k < s.size) : s.data.toList.take (k + 1) = s.data.toList.take k ++ [s[k]] := by
  rw [List.take_succ_eq_append_getElem (by simpa using h)]; rfl

theorem take_all (s : ByteArray) : s.data.toList.take s.size = s.data.toList := List.take_of_length_le (by simp)

def ReadRel (l : List UInt8) (size : Nat) (u4 u5 u22 : Value) : Prop :=
  ∃ (k : Nat) (ov : Bool) (z : Nat), k ≤ size ∧ u22 = .int .i64 k ∧ u5 = .bool ov ∧ u4 = .int .u64 z ∧ z < 18446744073709551616 ∧ digs (l.take k) = true ∧
    (ov = false → z = val (l.take k)) ∧ (ov = true → 18446744073709551616 ≤ val (l.take k))

theorem bytes_len (s : ByteArray) : s.data.toList.length = s.size := by simp
theorem byte_eq (s : ByteArray) (k : Nat) (h : k < s.size) : s.data.toList[k]? = some s[k] := by
  rw [List.getElem?_eq_getElem (by simpa using h)]; rfl

theorem rd_empty : rd [] = (0, 21) := by simp [rd]
theorem rd_nought (l : List UInt8) (h : l.head? = some 48) (h1 : 1 < l.length) : rd l = (0, 21) := by simp [rd, h, h1]

theorem toList_nil (s : ByteArray) (h : s.size = 0) : s.toList = [] := by
  rw [ByteArray.toList_eq]; exact List.eq_nil_of_length_eq_zero (by simpa using h)
theorem toList_ne (s : ByteArray) (h : 0 < s.size) : s.toList.isEmpty = false ∧ ¬ s.toList = [] := by
  rw [ByteArray.toList_eq]
  have h2 : s.data.toList.length = s.size := by simp
  have : s.data.toList ≠ [] := by
    intro e
    rw [e, List.length_nil] at h2
    omega
  exact ⟨by simpa using this, this⟩

theorem isDig_iff (c : UInt8) : isDig c = true ↔ 48 ≤ c.toNat ∧ c.toNat ≤ 57 := by simp [isDig]

theorem digs_take_succ (s : ByteArray) (k : Nat) (h : k < s.size) (hd : digs (s.data.toList.take k) = true) (hc : 48 ≤ s[k].toNat ∧ s[k].toNat ≤ 57) : digs (s.data.toList.take (k + 1)) = true := by
  rw [take_snoc s k h]
  simp only [digs, List.all_append, List.all_cons, List.all_nil, Bool.and_true, Bool.and_eq_true] at hd ⊢
  exact ⟨hd, (isDig_iff _).2 hc⟩

theorem digs_bad (s : ByteArray) (k : Nat) (h : k < s.size) (hc : ¬ (48 ≤ s[k].toNat ∧ s[k].toNat ≤ 57)) : digs s.data.toList = false := by
  cases hd : digs s.data.toList with
  | false => rfl
  | true =>
    have hm : s[k] ∈ s.data.toList := List.mem_of_getElem? (byte_eq s k h)
    exact absurd ((isDig_iff _).1 (List.all_eq_true.1 hd _ hm)) hc

theorem rd_bad (l : List UInt8) (h : digs l = false) : rd l = (0, 21) := by unfold rd; split <;> simp_all
theorem rd_over (l : List UInt8) (hne : l ≠ []) (h0 : ¬ (l.head? = some 48 ∧ 1 < l.length)) (h : digs l = true) (hv : 18446744073709551616 ≤ val l) : rd l = (0, 50) := by
  unfold rd
  rw [if_neg (fun h' => h'.elim hne h0), if_neg (by simp [h]), if_pos hv]
theorem rd_ok (l : List UInt8) (hne : l ≠ []) (h0 : ¬ (l.head? = some 48 ∧ 1 < l.length)) (h : digs l = true) (hv : ¬ 18446744073709551616 ≤ val l) : rd l = (val l, 0) := by
  unfold rd
  rw [if_neg (fun h' => h'.elim hne h0), if_neg (by simp [h]), if_neg hv]

theorem head_byte (s : ByteArray) (h : 0 < s.size) : s.data.toList.head? = some s[0] := by
  rw [List.head?_eq_getElem?]; exact byte_eq s 0 h

theorem wrap_nat (x : Int) : IntKind.u64.wrap x = ((x % 18446744073709551616).toNat : Int) := by rw [IntKind.wrap_u64]; omega
theorem wrap_lt (x : Int) : (x % 18446744073709551616).toNat < 18446744073709551616 := by omega

set_option maxRecDepth 100000 in
set_option maxHeartbeats 2000000 in
theorem read_any (s : ByteArray) (w : World) (hs : s.size ≤ maxLen) :
    Calls Try.prog 25 #[.string s] w fun e w' => e = .returned (.tuple #[.int .u64 (rd s.data.toList).1, .int .i64 (rd s.data.toList).2]) ∧ w = w' := by
  unfold maxLen at hs
  by_cases h0 : s.size = 0
  · have hl := toList_nil s h0
    have hr : rd s.data.toList = (0, 21) := by rw [← ByteArray.toList_eq, hl]; exact rd_empty
    rw [hr]
    go_enter Try.func25, Try.ntmps25
    go_wp2_with fail
    go_ret2
    exact ⟨rfl, rfl⟩
  · have hpos : 0 < s.size := by omega
    obtain ⟨hne1, hne2⟩ := toList_ne s hpos
    have hne : s.data.toList ≠ [] := by rw [← ByteArray.toList_eq]; exact hne2
    by_cases hz : s[0].toNat = 48 ∧ 1 < s.size
    · have hr : rd s.data.toList = (0, 21) := rd_nought _ (by rw [head_byte s hpos]; congr 1; exact UInt8.toNat_inj.1 hz.1) (by simpa using hz.2)
      rw [hr]
      obtain ⟨hz1, hz2⟩ := hz
      go_enter Try.func25, Try.ntmps25
      go_wp2_with fail
      go_ret2
      exact ⟨rfl, rfl⟩
    · have hz' : ¬ (s.data.toList.head? = some 48 ∧ 1 < s.data.toList.length) := by
        rw [head_byte s hpos, bytes_len]
        rintro ⟨h1, h2⟩
        refine hz ⟨?_, h2⟩
        simp only [Option.some.injEq] at h1
        rw [h1]; rfl
      have HZ := Lib.hid hz'
      have HN := Lib.hid hne
      clear hz' hne
      obtain ⟨r, hr⟩ : ∃ r, r = rd s.data.toList := ⟨_, rfl⟩
      rw [← hr]
      have HR := Lib.hid hr
      clear hr
      rcases (by omega : (s[0].toNat = 48 ∧ s.size ≤ 1) ∨ ¬ s[0].toNat = 48) with ⟨c0, c1⟩ | c0
      all_goals
        go_enter Try.func25, Try.ntmps25
        go_wp2_with fail
        go_loop [4, 5, 22] (fun u4 u5 u22 => ReadRel s.data.toList s.size u4 u5 u22) (fun _ _ u22 => s.size - (intOf u22).toNat)
        case atStart => exact ⟨0, false, 0, by omega, rfl, rfl, rfl, by omega, rfl, fun _ => rfl, fun h => by cases h⟩
        case round =>
          obtain ⟨k, ov, z, hk, rfl, rfl, rfl, hz, hd, hov, hno⟩ := hrel
          have HO := Lib.hid hov
          have HV := Lib.hid hno
          have HD := Lib.hid hd
          clear hov hno hd
          by_cases hlt : k < s.size
          · by_cases hc : 48 ≤ s[k].toNat ∧ s[k].toNat ≤ 57
            · have hts := take_snoc s k hlt
              have hds := digs_take_succ s k hlt HD.out hc
              have hvs := val_snoc (s.data.toList.take k) s[k]
              rw [← hts] at hvs
              have HS := Lib.hid hvs
              have HDS := Lib.hid hds
              clear hvs hts hds
              obtain ⟨hc1, hc2⟩ := hc
              cases ov with
              | true =>
                go_wp2_with fail
                refine ⟨⟨k + 1, true, _, by omega, by go_num, rfl, congrArg (Value.int .u64) (wrap_nat _), wrap_lt _, HDS.out, (fun h => by cases h), fun _ => ?_⟩, by simp [intOf]; omega⟩
                have := HV.out rfl; rw [HS.out]; omega
              | false =>
                by_cases hbig : (18446744073709551615 - (s[k].toNat - 48)) / 10 < z
                · go_wp2_with fail
                  refine ⟨⟨k + 1, true, _, by omega, by go_num, congrArg Value.bool (decide_eq_true (by omega)), congrArg (Value.int .u64) (wrap_nat _), wrap_lt _, HDS.out, (fun h => by cases h), fun _ => ?_⟩, by simp [intOf]; omega⟩
                  have := HO.out rfl; rw [HS.out]; omega
                · go_wp2_with fail
                  refine ⟨⟨k + 1, false, z * 10 + (s[k].toNat - 48), by omega, by go_num, congrArg Value.bool (decide_eq_false (by omega)), congrArg (Value.int .u64) (by omega), by omega, HDS.out, fun _ => ?_, fun h => by cases h⟩, by simp [intOf]; omega⟩
                  have := HO.out rfl; rw [HS.out]; omega
            · have hrb := rd_bad _ (digs_bad s k hlt hc)
              rw [← HR.out] at hrb
              subst hrb
              by_cases hc1 : s[k].toNat < 48
              · go_wp2_with fail
                go_ret2
                exact ⟨rfl, rfl⟩
              · have hc2 : 57 < s[k].toNat := by omega
                have hc3 : s[k].toNat < 256 := UInt8.toNat_lt _
                go_wp2_with fail
                go_ret2
                exact ⟨rfl, rfl⟩
          · obtain rfl : k = s.size := by omega
            rw [take_all] at HD HO HV
            have hhz := HZ.out
            have hhn := HN.out
            cases ov with
            | true =>
              have hrb := rd_over _ hhn hhz HD.out (HV.out rfl)
              rw [← HR.out] at hrb
              subst hrb
              clear hhz hhn
              go_wp2_with fail
              go_ret2
              exact ⟨rfl, rfl⟩
            | false =>
              have hrb := rd_ok _ hhn hhz HD.out (by have := HO.out rfl; omega)
              rw [← HR.out, ← HO.out rfl] at hrb
              subst hrb
              clear hhz hhn
              go_wp2_with fail
              go_ret2
              exact ⟨rfl, rfl⟩
end Go.Proofs.Ytljbehndnledpaa
