/- The walk of yesteryearref08.Read: a text as a number. Conditions: those of the theorem. -/
import Derived.Test.YtljbehndnledpaaRead
namespace Go.Proofs.Ytljbehndnledpaa
open Go.RowKit

theorem val_take_le (l : List UInt8) (k : Nat) : val (l.take k) ≤ val l := by
  have h : l.foldl (fun a c => 10 * a + (c.toNat - 48)) 0 = (l.drop k).foldl (fun a c => 10 * a + (c.toNat - 48)) ((l.take k).foldl (fun a c => 10 * a + (c.toNat - 48)) 0) := by
    rw [← List.foldl_append, List.take_append_drop]
  have h2 := foldl_val (l.drop k) (val (l.take k))
  have h3 : val l = val (l.take k) * 10 ^ (l.drop k).length + val (l.drop k) := by
    rw [← h2]; exact h
  have h4 : 1 ≤ 10 ^ (l.drop k).length := Nat.pow_pos (by omega)
  have h5 : val (l.take k) * 1 ≤ val (l.take k) * 10 ^ (l.drop k).length := Nat.mul_le_mul_left _ h4
  omega

/-- Greater than the greatest number, as the walk says it. -/
theorem gt_top (l : List UInt8) (h : digs l = true) (hl : l.length = 20) : (!Op.bytesLess l topDigs && !(l == topDigs)) = decide (18446744073709551616 ≤ val l) := by
  have h1 := less_val l topDigs h (by decide +kernel) (by rw [hl]; rfl)
  have h2 := less_val topDigs l (by decide +kernel) h (by rw [hl]; rfl)
  rw [val_top] at h1 h2
  by_cases hv : 18446744073709551616 ≤ val l
  · rw [decide_eq_true hv]
    have e1 : Op.bytesLess l topDigs = false := by
      cases hb : Op.bytesLess l topDigs with
      | false => rfl
      | true => have := h1.1 hb; omega
    have e2 : (l == topDigs) = false := by
      cases hb : l == topDigs with
      | false => rfl
      | true => have := beq_iff_eq.1 hb; rw [this, val_top] at hv; omega
    rw [e1, e2]; rfl
  · rw [decide_eq_false hv]
    by_cases he : val l = 18446744073709551615
    · have : l = topDigs := digs_inj l topDigs h (by decide +kernel) (by rw [hl]; rfl) (by rw [he, val_top])
      subst this
      simp
    · have e1 : Op.bytesLess l topDigs = true := h1.2 (by omega)
      rw [e1]; rfl
set_option maxRecDepth 100000 in
set_option maxHeartbeats 2000000 in
theorem refRead_any (s : ByteArray) (w : World) (hs : s.size ≤ maxLen) :
    Calls Try.prog 26 #[.string s] w fun e w' => e = .returned (.tuple #[.int .u64 (rd s.data.toList).1, .int .i64 (rd s.data.toList).2]) ∧ w = w' := by
  unfold maxLen at hs
  obtain ⟨r, hr⟩ : ∃ r, r = rd s.data.toList := ⟨_, rfl⟩
  rw [← hr]
  have HR := Lib.hid hr
  clear hr
  by_cases h0 : s.size = 0
  · have hl := toList_nil s h0
    have hrb : r = (0, 21) := by rw [HR.out, ← ByteArray.toList_eq, hl]; exact rd_empty
    subst hrb
    go_enter Try.func26, Try.ntmps26
    go_wp2_with fail
    go_ret2
    exact ⟨rfl, rfl⟩
  · have hpos : 0 < s.size := by omega
    have hsz : ((s.size : Int) == 0) = false := by rw [beq_eq_false_iff_ne]; omega
    by_cases hz : s[0].toNat = 48 ∧ 1 < s.size
    · have hrb : r = (0, 21) := HR.out.trans (rd_nought _ (by rw [head_byte s hpos]; congr 1; exact UInt8.toNat_inj.1 hz.1) (by simpa using hz.2))
      subst hrb
      obtain ⟨hz1, hz2⟩ := hz
      go_enter Try.func26, Try.ntmps26
      go_wp2_with fail
      go_ret2
      exact ⟨rfl, rfl⟩
    · have hne : s.data.toList ≠ [] := by
        obtain ⟨_, h⟩ := toList_ne s hpos
        rw [← ByteArray.toList_eq]; exact h
      have hz' : ¬ (s.data.toList.head? = some 48 ∧ 1 < s.data.toList.length) := by
        rw [head_byte s hpos, bytes_len]
        rintro ⟨h1, h2⟩
        refine hz ⟨?_, h2⟩
        simp only [Option.some.injEq] at h1
        rw [h1]; rfl
      have HZ := Lib.hid hz'
      have HN := Lib.hid hne
      clear hz' hne
      rcases (by omega : s.size ≤ 1 ∨ (1 < s.size ∧ (s[0].toNat : Int) ≠ 48)) with c0 | ⟨c0, c1⟩
      rotate_left
      have c1 := beq_eq_false_iff_ne.2 c1
      rotate_left
      all_goals
        go_enter Try.func26, Try.ntmps26
        go_wp2_with fail
        go_loop [4] (fun u4 => ∃ k : Nat, k ≤ s.size ∧ u4 = .int .i64 k ∧ Hid (digs (s.data.toList.take k) = true)) (fun u4 => s.size - (intOf u4).toNat)
        case atStart => exact ⟨0, by omega, rfl, Lib.hid rfl⟩
        case round =>
          obtain ⟨k, hk, rfl, HD⟩ := hrel
          by_cases hlt : k < s.size
          · by_cases hc : 48 ≤ s[k].toNat ∧ s[k].toNat ≤ 57
            · have hds := Lib.hid (digs_take_succ s k hlt HD.out hc)
              obtain ⟨hc1, hc2⟩ := hc
              go_wp2_with fail
              exact ⟨⟨k + 1, by omega, by go_num, hds⟩, by simp [intOf]; omega⟩
            · have hrb : r = (0, 21) := HR.out.trans (rd_bad _ (digs_bad s k hlt hc))
              subst hrb
              by_cases hc1 : s[k].toNat < 48
              · go_wp2_with fail
                go_ret2
                exact ⟨rfl, rfl⟩
              · have hc2 : 57 < s[k].toNat := by omega
                go_wp2_with fail
                go_ret2
                exact ⟨rfl, rfl⟩
          · obtain rfl : k = s.size := by omega
            rw [take_all] at HD
            have htg := too_great _ HD.out HN.out HZ.out
            by_cases hv : 18446744073709551616 ≤ val s.data.toList
            · have hrb : r = (0, 50) := HR.out.trans (rd_over _ HN.out HZ.out HD.out hv)
              subst hrb
              by_cases h20 : 20 < s.size
              · clear htg hv
                (go_wp2_with fail) <;> (go_ret2; exact ⟨rfl, rfl⟩)
              · have he20 : s.size = 20 := by
                  rcases htg.2 hv with h | ⟨h, _⟩
                  · rw [bytes_len] at h; omega
                  · rw [bytes_len] at h; exact h
                have hgt := gt_top _ HD.out (by rw [bytes_len]; exact he20)
                rw [decide_eq_true hv, ← ByteArray.toList_eq] at hgt
                have hE : ((s.size : Int) == 20) = true := by rw [beq_iff_eq]; omega
                rw [Bool.and_eq_true, Bool.not_eq_true', Bool.not_eq_true'] at hgt
                obtain ⟨hA, hB⟩ := hgt
                unfold topDigs at hA hB
                clear htg hv he20
                (go_wp2_with fail) <;> (go_ret2; exact ⟨rfl, rfl⟩)
            · have hrb : r = (val s.data.toList, 0) := HR.out.trans (rd_ok _ HN.out HZ.out HD.out hv)
              have h20 : ¬ 20 < s.size := fun h => hv (htg.1 (.inl (by rw [bytes_len]; exact h)))
              subst hrb
              have hcase : ((s.size : Int) == 20) = false ∨ (((s.size : Int) == 20) = true ∧ Op.bytesLess s.toList [49, 56, 52, 52, 54, 55, 52, 52, 48, 55, 51, 55, 48, 57, 53, 53, 49, 54, 49, 53] = true) ∨
                  (((s.size : Int) == 20) = true ∧ (s.toList == [49, 56, 52, 52, 54, 55, 52, 52, 48, 55, 51, 55, 48, 57, 53, 53, 49, 54, 49, 53]) = true) := by
                by_cases he20 : s.size = 20
                · have hgt := gt_top _ HD.out (by rw [bytes_len]; exact he20)
                  rw [decide_eq_false hv, ← ByteArray.toList_eq] at hgt
                  have hE : ((s.size : Int) == 20) = true := by rw [beq_iff_eq]; omega
                  rw [Bool.and_eq_false_iff, Bool.not_eq_false', Bool.not_eq_false'] at hgt
                  rcases hgt with h | h
                  · exact .inr (.inl ⟨hE, h⟩)
                  · exact .inr (.inr ⟨hE, h⟩)
                · exact .inl (by rw [beq_eq_false_iff_ne]; omega)
              have HV := Lib.hid hv
              clear htg hv
              rcases hcase with hE | ⟨hE, hA⟩ | ⟨hE, hA⟩
              all_goals
                go_wp2_with fail
              all_goals
                go_loop [5, 6] (fun u5 u6 => ∃ (k z : Nat), k ≤ s.size ∧ u6 = .int .i64 k ∧ u5 = .int .u64 z ∧ Hid (z = val (s.data.toList.take k))) (fun _ u6 => s.size - (intOf u6).toNat)
                case atStart => exact ⟨0, 0, by omega, rfl, rfl, Lib.hid rfl⟩
                case round =>
                  obtain ⟨k, z, hk, rfl, rfl, HK⟩ := hrel
                  by_cases hlt : k < s.size
                  · have hts := take_snoc s k hlt
                    have hvs := val_snoc (s.data.toList.take k) s[k]
                    rw [← hts, ← HK.out] at hvs
                    have hle := val_take_le s.data.toList (k + 1)
                    have hnv := HV.out
                    have hdk : 48 ≤ s[k].toNat ∧ s[k].toNat ≤ 57 := (isDig_iff _).1 (List.all_eq_true.1 HD.out _ (List.mem_of_getElem? (byte_eq s k hlt)))
                    have hz1 : 10 * z + (s[k].toNat - 48) < 18446744073709551616 := by omega
                    have HS := Lib.hid hvs
                    clear hts hvs hle hnv
                    obtain ⟨hd1, hd2⟩ := hdk
                    go_wp2_with fail
                    refine ⟨⟨k + 1, 10 * z + (s[k].toNat - 48), by omega, by go_num, congrArg (Value.int .u64) ?_, Lib.hid HS.out.symm⟩, by simp [intOf]; omega⟩
                    first | omega | (simp only [IntKind.wrap_u64]; omega)
                  · obtain rfl : k = s.size := by omega
                    rw [take_all] at HK
                    have hz := HK.out
                    subst hz
                    go_wp2_with fail
                    go_ret2
                    exact ⟨rfl, rfl⟩
end Go.Proofs.Ytljbehndnledpaa
