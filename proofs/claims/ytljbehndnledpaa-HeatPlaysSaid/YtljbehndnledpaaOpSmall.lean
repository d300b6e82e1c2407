/- The walks of op.count, id, place, members and of yesteryearref13.members. Conditions: those of each theorem. -/
import Derived.Test.YtljbehndnledpaaOpPlain
namespace Go.Proofs.Ytljbehndnledpaa
open Go.RowKit

set_option maxHeartbeats 1000000 in
theorem opCount_any (n : Int) (w : World) : Calls Try.prog 160 #[.int .i64 n] w fun e w' => e = .returned (.bool (okCount n)) ∧ w = w' := by
  unfold okCount
  by_cases h1 : 1 ≤ n
  · by_cases h2 : n ≤ 32
    · go_enter Try.func160, Try.ntmps160
      go_wp2_with fail
      go_ret
      exact ⟨by simp [*], rfl⟩
    · go_enter Try.func160, Try.ntmps160
      go_wp2_with fail
      go_ret
      exact ⟨by simp [*], rfl⟩
  · go_enter Try.func160, Try.ntmps160
    go_wp2_with fail
    go_ret
    exact ⟨by simp; omega, rfl⟩

set_option maxHeartbeats 1000000 in
theorem opId_any (n : Int) (w : World) : Calls Try.prog 161 #[.int .i64 n] w fun e w' => e = .returned (.bool (okId n)) ∧ w = w' := by
  unfold okId
  by_cases h1 : 1 ≤ n
  · by_cases h2 : n ≤ 65535
    · go_enter Try.func161, Try.ntmps161
      go_wp2_with fail
      go_ret
      exact ⟨by simp [*], rfl⟩
    · go_enter Try.func161, Try.ntmps161
      go_wp2_with fail
      go_ret
      exact ⟨by simp [*], rfl⟩
  · go_enter Try.func161, Try.ntmps161
    go_wp2_with fail
    go_ret
    exact ⟨by simp; omega, rfl⟩

set_option maxHeartbeats 1000000 in
theorem opPlace_any (n : Int) (w : World) : Calls Try.prog 162 #[.int .i64 n] w fun e w' => e = .returned (.bool (okPlace n)) ∧ w = w' := by
  unfold okPlace
  by_cases h1 : 0 ≤ n
  · by_cases h2 : n ≤ 31
    · have h3 : n < 32 := by omega
      go_enter Try.func162, Try.ntmps162
      go_wp2_with fail
      go_ret
      exact ⟨by simp [*], rfl⟩
    · have h3 : ¬ n < 32 := by omega
      go_enter Try.func162, Try.ntmps162
      go_wp2_with fail
      go_ret
      exact ⟨by simp [*], rfl⟩
  · go_enter Try.func162, Try.ntmps162
    go_wp2_with fail
    go_ret
    exact ⟨by simp; omega, rfl⟩
/-- An element of a slice of integers, where the walk looks for it. -/
theorem Is.cell {k : IntKind} {w : World} {a : Option Addr} {n : Nat} {l : List Int} (h : Is k w a n l) (i : Nat) (hi : i < n) :
    ∃ (b o : Nat) (x : Int), a = some ⟨b, o, none⟩ ∧ l[i]? = some x ∧ w.cell? ⟨b, o + i, none⟩ = some (.int k x) := by
  have hl := h.len
  obtain ⟨b, o, ha, hc⟩ := h.at (by omega)
  have hci := hc i hi
  refine ⟨b, o, l[i], ha, List.getElem?_eq_getElem (by omega), ?_⟩
  rw [hci]
  congr 2
  simp [List.getD, show i < l.length by omega]

theorem rises_snoc (x : Int) : ∀ (l : List Int) (last : Int), rises last (l ++ [x]) = (rises last l && (decide ((l.getLast?.getD last) < x) && decide (x ≤ 65535)))
  | [], last => by
    show (decide (last < x) && decide (x ≤ 65535) && true) = (true && (decide (last < x) && decide (x ≤ 65535)))
    rw [Bool.and_true, Bool.true_and]
  | y :: r, last => by
    simp only [List.cons_append, rises, rises_snoc x r y]
    have : ((y :: r).getLast?.getD last) = (r.getLast?.getD y) := by
      cases r with
      | nil => rfl
      | cons z r => simp [List.getLast?_cons]
    rw [this]
    simp only [Bool.and_assoc]

theorem rises_take (l : List Int) (i : Nat) (x : Int) (hx : l[i]? = some x) : rises 0 (l.take (i + 1)) = (rises 0 (l.take i) && (decide ((l.take i).getLast?.getD 0 < x) && decide (x ≤ 65535))) := by
  rw [List.take_add_one, hx]
  exact rises_snoc x _ 0
theorem rises_false (l : List Int) (i : Nat) (h : rises 0 (l.take i) = false) : rises 0 l = false := by
  have : ∀ (a b : List Int) (last : Int), rises last a = false → rises last (a ++ b) = false := by
    intro a
    induction a with
    | nil => intro b last h; simp [rises] at h
    | cons y r ih =>
      intro b last h
      simp only [List.cons_append, rises] at h ⊢
      cases hd : (decide (last < y) && decide (y ≤ 65535)) with
      | false => simp
      | true => rw [hd] at h; simp only [Bool.true_and] at h ⊢; exact ih b y h
  rw [← List.take_append_drop i l]
  exact this _ _ 0 h
theorem rises_pos : ∀ (l : List Int) (last : Int), 0 ≤ last → rises last l = true → 0 ≤ l.getLast?.getD last
  | [], last, h, _ => h
  | y :: r, last, h, hr => by
    simp only [rises, Bool.and_eq_true, decide_eq_true_eq] at hr
    have : ((y :: r).getLast?.getD last) = (r.getLast?.getD y) := by
      cases r with
      | nil => rfl
      | cons z r => simp [List.getLast?_cons]
    rw [this]
    exact rises_pos r y (by omega) hr.2
theorem last_take (l : List Int) (i : Nat) (x : Int) (hx : l[i]? = some x) : (l.take (i + 1)).getLast?.getD 0 = x := by
  rw [List.take_add_one, hx]; simp

set_option maxRecDepth 100000 in
set_option maxHeartbeats 2000000 in
theorem refMembers_any (a : Option Addr) (n cap : Nat) (l : List Int) (w : World) (h : Is .i64 w a n l) (hn : n ≤ 1000000000) :
    Calls Try.prog 172 #[.slice a n cap] w fun e w' => e = .returned (.bool (okMem l)) ∧ w = w' := by
  have HB := Lib.hid h
  have HL := Lib.hid h.len
  obtain ⟨r, hr⟩ : ∃ r, r = okMem l := ⟨_, rfl⟩
  rw [← hr]
  have HR := Lib.hid hr
  clear h hr
  go_enter Try.func172, Try.ntmps172
  go_wp2_with fail
  go_loop [3, 4] (fun u3 u4 => ∃ k : Nat, k ≤ n ∧ u4 = .int .i64 k ∧ u3 = .int .i64 ((l.take k).getLast?.getD 0) ∧ Hid (rises 0 (l.take k) = true)) (fun _ u4 => n - (intOf u4).toNat)
  case atStart => exact ⟨0, by omega, rfl, rfl, Lib.hid rfl⟩
  case round =>
    obtain ⟨k, hk, rfl, rfl, HK⟩ := hrel
    by_cases hlt : k < n
    · obtain ⟨b, o, x, rfl, hx, hck⟩ := Is.cell HB.out k hlt
      have hnx := rises_take l k x hx
      rw [HK.out] at hnx
      have hla := last_take l k x hx
      have HLA := Lib.hid hla
      generalize (l.take k).getLast?.getD 0 = last at *
      by_cases h1 : last < x
      · by_cases h2 : x ≤ 65535
        · have hn2 : rises 0 (l.take (k + 1)) = true := by rw [hnx]; simp [h1, h2]
          have HN := Lib.hid hn2
          clear hx hnx hla hn2 HK
          go_wp2_with fail
          exact ⟨⟨k + 1, by omega, by go_num, by rw [HLA.out], HN⟩, by simp [intOf]; omega⟩
        · have hn2 : rises 0 (l.take (k + 1)) = false := by rw [hnx]; simp [h2]
          have hrf : r = false := by rw [HR.out, okMem, rises_false l (k + 1) hn2]; rfl
          subst hrf
          clear hx hnx hla hn2 HK
          go_wp2_with fail
          go_ret
          exact ⟨rfl, rfl⟩
      · have hn2 : rises 0 (l.take (k + 1)) = false := by rw [hnx]; simp [h1]
        have hrf : r = false := by rw [HR.out, okMem, rises_false l (k + 1) hn2]; rfl
        subst hrf
        clear hx hnx hla hn2 HK
        go_wp2_with fail
        go_ret
        exact ⟨rfl, rfl⟩
    · have hkn : k = n := by omega
      subst hkn
      have hrt : r = (decide (1 ≤ k) && decide (k ≤ 8)) := by
        have := HK.out
        rw [List.take_of_length_le (by rw [HL.out]; omega)] at this
        rw [HR.out, okMem, this, HL.out]; rfl
      generalize (l.take k).getLast?.getD 0 = last at *
      clear HK
      by_cases h1 : 1 ≤ k
      · by_cases h2 : k ≤ 8
        · have hrt2 : r = true := by rw [hrt]; simp [h1, h2]
          subst hrt2
          clear hrt
          go_wp2_with fail
          go_ret
          exact ⟨by simp; omega, rfl⟩
        · have hrt2 : r = false := by rw [hrt]; simp [h2]
          subst hrt2
          clear hrt
          go_wp2_with fail
          go_ret
          exact ⟨by simp; omega, rfl⟩
      · have hrt2 : r = false := by rw [hrt]; simp [h1]
        subst hrt2
        clear hrt
        go_wp2_with fail
        go_ret
        exact ⟨by simp, rfl⟩
end Go.Proofs.Ytljbehndnledpaa
