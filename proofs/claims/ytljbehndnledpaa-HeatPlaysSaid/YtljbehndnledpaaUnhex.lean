/- The walks of text.half, text.Bytes, bytes.Equal: pairs of digits as bytes. Conditions: those of each theorem. -/
import Derived.Test.YtljbehndnledpaaHex
namespace Go.Proofs.Ytljbehndnledpaa
open Go.RowKit

/-- The half of a byte that a digit is. -/
def halfV (c : Nat) : Option Nat := if 48 ≤ c ∧ c ≤ 57 then some (c - 48) else if 97 ≤ c ∧ c ≤ 102 then some (c - 87) else none
/-- The bytes of pairs of digits. -/
def unhex : List UInt8 → Option (List UInt8)
  | [] => some []
  | [_] => none
  | a :: b :: r => match halfV a.toNat, halfV b.toNat with
    | some x, some y => (unhex r).map (UInt8.ofNat (16 * x + y) :: ·)
    | _, _ => none

theorem halfV_lt {c x : Nat} (h : halfV c = some x) : x < 16 := by
  unfold halfV at h
  split at h
  · simp at h; omega
  · split at h
    · simp at h; omega
    · cases h

theorem halfV_hexD (n : Nat) (h : n < 16) : halfV (hexD n).toNat = some n := by
  rw [hexD_nat n h]
  unfold halfV
  by_cases h1 : n < 10
  · rw [if_pos h1, if_pos (by omega)]; congr 1; omega
  · rw [if_neg h1, if_neg (by omega), if_pos (by omega)]; congr 1; omega

theorem hexD_halfV {c : UInt8} {x : Nat} (h : halfV c.toNat = some x) : hexD x = c := by
  apply UInt8.toNat_inj.1
  have hx := halfV_lt h
  rw [hexD_nat x hx]
  unfold halfV at h
  split at h
  · simp at h; rw [if_pos (by omega)]; omega
  · split at h
    · simp at h; rw [if_neg (by omega)]; omega
    · cases h

theorem unhex_hexL (l : List UInt8) : unhex (hexL l) = some l := by
  induction l with
  | nil => rfl
  | cons c l ih =>
    have hc : c.toNat < 256 := UInt8.toNat_lt _
    have : hexL (c :: l) = hexD (c.toNat / 16) :: hexD (c.toNat % 16) :: hexL l := by simp [hexL]
    rw [this, unhex, halfV_hexD _ (by omega), halfV_hexD _ (by omega)]
    simp only [ih, Option.map_some, Option.some.injEq, List.cons.injEq, and_true]
    apply UInt8.toNat_inj.1
    rw [UInt8.toNat_ofNat']
    omega

theorem hexL_unhex : ∀ (l b : List UInt8), unhex l = some b → hexL b = l
  | [], b, h => by simp [unhex] at h; subst h; rfl
  | [_], b, h => by simp [unhex] at h
  | x :: y :: r, b, h => by
    rw [unhex] at h
    cases hx : halfV x.toNat with
    | none => rw [hx] at h; cases h
    | some p =>
      cases hy : halfV y.toNat with
      | none => rw [hx, hy] at h; cases h
      | some q =>
        rw [hx, hy] at h
        cases hr : unhex r with
        | none => simp [hr] at h
        | some b' =>
          simp only [hr, Option.map_some, Option.some.injEq] at h
          subst h
          have ih := hexL_unhex r b' hr
          have hp := halfV_lt hx
          have hq := halfV_lt hy
          have e : (UInt8.ofNat (16 * p + q)).toNat = 16 * p + q := by rw [UInt8.toNat_ofNat']; omega
          have : hexL (UInt8.ofNat (16 * p + q) :: b') = hexD ((UInt8.ofNat (16 * p + q)).toNat / 16) :: hexD ((UInt8.ofNat (16 * p + q)).toNat % 16) :: hexL b' := by simp [hexL]
          rw [this, e, ih, show (16 * p + q) / 16 = p by omega, show (16 * p + q) % 16 = q by omega, hexD_halfV hx, hexD_halfV hy]

def isHex (c : UInt8) : Bool := (halfV c.toNat).isSome
/-- Why bytes are no pairs of digits: they are odd, or one is no digit. -/
theorem unhex_none : ∀ l : List UInt8, unhex l = none → l.length % 2 = 1 ∨ l.all isHex = false
  | [], h => by simp [unhex] at h
  | [_], h => by simp
  | x :: y :: r, h => by
    rw [unhex] at h
    cases hx : halfV x.toNat with
    | none => right; simp [isHex, hx]
    | some p =>
      cases hy : halfV y.toNat with
      | none => right; simp [isHex, hy]
      | some q =>
        rw [hx, hy] at h
        simp only [Option.map_eq_none_iff] at h
        rcases unhex_none r h with h1 | h1
        · left; simp only [List.length_cons]; omega
        · right; simp only [List.all_cons, h1, Bool.and_false]

theorem unhex_odd : ∀ l : List UInt8, l.length % 2 = 1 → unhex l = none
  | [], h => by simp at h
  | [_], _ => rfl
  | x :: y :: r, h => by
    rw [unhex, unhex_odd r (by simp only [List.length_cons] at h; omega)]
    cases halfV x.toNat <;> cases halfV y.toNat <;> rfl

/-- Two digits more. -/
theorem unhex_snoc : ∀ (l b : List UInt8) (x y : UInt8) (p q : Nat), unhex l = some b → halfV x.toNat = some p → halfV y.toNat = some q → unhex (l ++ [x, y]) = some (b ++ [UInt8.ofNat (16 * p + q)])
  | [], b, x, y, p, q, h, hx, hy => by
    simp [unhex] at h; subst h
    simp [unhex, hx, hy]
  | [_], b, x, y, p, q, h, hx, hy => by simp [unhex] at h
  | u :: v :: r, b, x, y, p, q, h, hx, hy => by
    rw [unhex] at h
    cases hu : halfV u.toNat with
    | none => rw [hu] at h; cases h
    | some p' =>
      cases hv : halfV v.toNat with
      | none => rw [hu, hv] at h; cases h
      | some q' =>
        rw [hu, hv] at h
        cases hr : unhex r with
        | none => simp [hr] at h
        | some b' =>
          simp only [hr, Option.map_some, Option.some.injEq] at h
          subst h
          have ih := unhex_snoc r b' x y p q hr hx hy
          simp only [List.cons_append, unhex, hu, hv, ih, Option.map_some]

/-- A digit that is none spoils all. -/
theorem unhex_bad : ∀ (l m : List UInt8) (x y : UInt8), l.length % 2 = 0 → (halfV x.toNat = none ∨ halfV y.toNat = none) → unhex (l ++ x :: y :: m) = none
  | [], m, x, y, _, h => by
    rw [List.nil_append, unhex]
    rcases h with h | h
    · rw [h]
    · rw [h]; cases halfV x.toNat <;> rfl
  | [_], m, x, y, h, _ => by simp at h
  | u :: v :: r, m, x, y, h, hb => by
    have ih := unhex_bad r m x y (by simp only [List.length_cons] at h; omega) hb
    simp only [List.cons_append, unhex, ih]
    cases halfV u.toNat <;> cases halfV v.toNat <;> rfl

theorem Bs.str {w : World} {a : Option Addr} {n cap : Nat} {l : List UInt8} (h : Bs w a n l) :
    (convert 37 9 (.slice a n cap)).run Try.prog w = .ok (.string ⟨l.toArray⟩) w := by
  have hl : l.length = n := by have := h.len; simpa using this
  by_cases h0 : n = 0
  · subst h0
    have : l = [] := List.eq_nil_of_length_eq_zero hl
    subst this
    cases a with
    | none => rw [run_convert_bytes_string w 37 9 5 none 0 cap Try.underlying37 Try.underlying5 Try.underlying9]; rfl
    | some x => exact run_convert_bytes_back w 37 9 5 x cap [] Try.underlying37 Try.underlying5 Try.underlying9 fun j hj => by simp at hj
  · obtain ⟨b, o, rfl, hcell⟩ := h.at (by omega)
    refine str_of_cells hl Try.underlying37 Try.underlying5 Try.underlying9 fun j c hj => ?_
    have hj' : j < l.length := (List.getElem?_eq_some_iff.1 hj).1
    rw [hcell j (by omega), map_getD l j hj']
    rw [List.getElem?_eq_getElem hj'] at hj
    simp only [Option.some.injEq] at hj
    rw [hj]

theorem str_beq (a b : List UInt8) : ((⟨a.toArray⟩ : ByteArray).toList == (⟨b.toArray⟩ : ByteArray).toList) = (a == b) := by
  rw [ByteArray.toList_eq, ByteArray.toList_eq]

set_option maxHeartbeats 400000 in
theorem bytesEq_any (a a' : Option Addr) (n n' cap cap' : Nat) (l l' : List UInt8) (w : World) (h : Bs w a n l) (h' : Bs w a' n' l') :
    Calls Try.prog 31 #[.slice a n cap, .slice a' n' cap'] w fun e w' => e = .returned (.bool (l == l')) ∧ w = w' := by
  have c1 := h.str (cap := cap)
  have c2 := h'.str (cap := cap')
  have hs := str_beq l l'
  generalize (⟨l.toArray⟩ : ByteArray) = s at *
  generalize (⟨l'.toArray⟩ : ByteArray) = s' at *
  have HS := Lib.hid hs
  clear hs
  go_enter Try.func31, Try.ntmps31
  go_wp2_with fail
  go_ret
  exact ⟨ret_bool HS.out, rfl⟩

/-- A slice of bytes of the call's own is one that reads. -/
theorem own_bs {w : World} {base n : Nat} {v : Value} {l : List UInt8} (h : w.ownsRow base 5 1 v n (cellsOfB l)) : ∃ a cap, v = .slice a n cap ∧ Bs w a n l ∧ l.length = n := by
  have hl : l.length = n := by have := h.1; simpa [cellsOfB] using this
  rcases h.2 with ⟨rfl, rfl⟩ | ⟨g, cap, cur, rfl, hbg, hg, hnc, hcm, hcs, htake⟩
  · have : l = [] := List.eq_nil_of_length_eq_zero hl
    subst this
    exact ⟨none, 0, rfl, ⟨rfl, fun i x hx => by simp at hx⟩, rfl⟩
  · refine ⟨some ⟨g, 0, none⟩, cap, rfl, Is.mk' (by simpa using hl) fun i hi => ?_, hl⟩
    have := h.cells (g := g) rfl i (.int .u8 (l[i].toNat : Int)) (by simp [cellsOfB, List.getElem?_eq_getElem (show i < l.length by omega)])
    rw [map_getD l i (by omega), ← this]
    congr 1
    unfold Addr.add
    split <;> simp_all

set_option maxHeartbeats 400000 in
theorem half_any (z : Int) (o : Option Nat) (w : World) (h0 : 0 ≤ z) (h1 : z < 256) (ho : Hid (halfV z.toNat = o)) :
    Calls Try.prog 99 #[.int .u8 z] w fun e w' => e = .returned (.tuple #[.int .u8 ((o.getD 0 : Nat) : Int), .bool o.isSome]) ∧ w = w' := by
  have h := ho.out
  unfold halfV at h
  by_cases hA : 48 ≤ z ∧ z ≤ 57
  · rw [if_pos (by omega)] at h
    subst h
    obtain ⟨hA1, hA2⟩ := hA
    clear ho
    go_enter Try.func99, Try.ntmps99
    go_wp2_with fail
    go_ret2
    have e : ((z.toNat - 48 : Nat) : Int) = z - 48 := by omega
    exact ⟨by rw [Option.getD_some, e]; rfl, rfl⟩
  · rw [if_neg (by omega)] at h
    by_cases hB : 97 ≤ z ∧ z ≤ 102
    · rw [if_pos (by omega)] at h
      subst h
      obtain ⟨hB1, hB2⟩ := hB
      clear ho
      go_enter Try.func99, Try.ntmps99
      go_wp2_with fail
      go_ret2
      have e : ((z.toNat - 87 : Nat) : Int) = z - 97 + 10 := by omega
      exact ⟨by rw [Option.getD_some, e]; rfl, rfl⟩
    · rw [if_neg (by omega)] at h
      subst h
      clear ho
      go_enter Try.func99, Try.ntmps99
      go_wp2_with fail
      all_goals
        go_ret2
        exact ⟨rfl, rfl⟩
/-- What Bytes comes to. -/
def BytesEnds (l : List UInt8) (w : World) (e : Ending) (w' : World) : Prop :=
  Below w.heap.size w w' ∧ ((unhex l = none ∧ e = .returned (.tuple #[.slice none 0 0, .int .i64 21])) ∨
    ∃ b v, unhex l = some b ∧ e = .returned (.tuple #[v, .int .i64 0]) ∧ w'.ownsRow w.heap.size 5 1 v b.length (cellsOfB b))

set_option maxRecDepth 100000 in
set_option maxHeartbeats 2000000 in
theorem unhex_any (s : ByteArray) (w : World) (hs : s.size ≤ 1000000000) :
    Calls Try.prog 30 #[.string s] w (BytesEnds s.data.toList w) := by
  obtain ⟨i0, hi, hz0, hz1, hz2⟩ := info_parts info5
  by_cases hodd : s.size % 2 = 1
  · have hm : ((s.size : Int) % 2 != 0) = true := by rw [bne_iff_ne]; omega
    go_enter Try.func30, Try.ntmps30
    go_wp2_with fail
    go_ret2
    exact ⟨Below.refl _ _, .inl ⟨unhex_odd _ (by rw [bytes_len]; exact hodd), rfl⟩⟩
  · have hm : ((s.size : Int) % 2 != 0) = false := by rw [bne_eq_false_iff_eq]; omega
    go_enter Try.func30, Try.ntmps30
    go_wp2_with fail
    go_loopw [4, 5] (fun u4 u5 wr => ∃ (k : Nat) (b : List UInt8), 2 * k ≤ s.size ∧ u5 = .int .i64 ((2 * k : Nat) : Int) ∧ Hid (unhex (s.data.toList.take (2 * k)) = some b ∧ b.length = k) ∧ wr.ownsRow w.heap.size 5 1 u4 b.length (cellsOfB b) ∧ Below w.heap.size w wr) (fun _ u5 _ => s.size - (intOf u5).toNat)
    case atStart => exact ⟨0, [], by omega, rfl, ⟨rfl, rfl⟩, World.ownsRow_nil _ _ _ _, Below.refl _ _⟩
    case round =>
      obtain ⟨k, b, hk, rfl, HB, hown, hbw⟩ := hrel
      have hbl := HB.out.2
      by_cases hlt : 2 * k < s.size
      · have hlt2 : 2 * k + 1 < s.size := by omega
        have hx : s[2 * k].toNat < 256 := UInt8.toNat_lt _
        have hy : s[2 * k + 1].toNat < 256 := UInt8.toNat_lt _
        have e1 := byte_eq s (2 * k) hlt
        have e2 := byte_eq s (2 * k + 1) hlt2
        obtain ⟨ox, hox⟩ : ∃ o, halfV s[2 * k].toNat = o := ⟨_, rfl⟩
        obtain ⟨oy, hoy⟩ : ∃ o, halfV s[2 * k + 1].toNat = o := ⟨_, rfl⟩
        have HX : Hid (halfV ((s[2 * k].toNat : Nat) : Int).toNat = ox) := Lib.hid (by rw [Int.toNat_natCast]; exact hox)
        have HY : Hid (halfV ((s[2 * k + 1].toNat : Nat) : Int).toNat = oy) := Lib.hid (by rw [Int.toNat_natCast]; exact hoy)
        by_cases hbad : ox = none ∨ oy = none
        · have hnone : unhex s.data.toList = none := by
            have hsp : s.data.toList = s.data.toList.take (2 * k) ++ s[2 * k] :: s[2 * k + 1] :: s.data.toList.drop (2 * k + 2) := by
              conv => lhs; rw [← List.take_append_drop (2 * k) s.data.toList]
              congr 1
              rw [List.drop_eq_getElem_cons (by simpa using hlt), List.drop_eq_getElem_cons (by simpa using hlt2)]
              rfl
            rw [hsp]
            refine unhex_bad _ _ _ _ (by rw [List.length_take, bytes_len]; omega) ?_
            rcases hbad with h | h
            · left; rw [hox, h]
            · right; rw [hoy, h]
          have HN := Lib.hid hnone
          have hbad' : ox.isSome = false ∨ (ox.isSome = true ∧ oy.isSome = false) := by
            cases ox with
            | none => exact .inl rfl
            | some p => rcases hbad with h | h
                        · cases h
                        · exact .inr ⟨rfl, by rw [h]; rfl⟩
          clear hox hoy e1 e2 hnone hbad
          rcases hbad' with h | ⟨h, h2⟩
          all_goals
            go_wp2_with fail
            refine (half_any _ ox _ (by omega) (by omega) HX).mono ?_
            rintro e w1 ⟨rfl, rfl⟩
            go_wp2_with fail
            refine (half_any _ oy _ (by omega) (by omega) HY).mono ?_
            rintro e w1 ⟨rfl, rfl⟩
            go_wp2_with fail
            all_goals
              go_ret2
              exact ⟨hbw, .inl ⟨HN.out, rfl⟩⟩
        · obtain ⟨p, rfl⟩ : ∃ p, ox = some p := by cases ox with | none => exact absurd (.inl rfl) hbad | some p => exact ⟨p, rfl⟩
          obtain ⟨q, rfl⟩ : ∃ q, oy = some q := by cases oy with | none => exact absurd (.inr rfl) hbad | some q => exact ⟨q, rfl⟩
          have hp := halfV_lt hox
          have hq := halfV_lt hoy
          have hun : unhex (s.data.toList.take (2 * (k + 1))) = some (b ++ [UInt8.ofNat (16 * p + q)]) := by
            have h1 := take_snoc s (2 * k) hlt
            have h2 := take_snoc s (2 * k + 1) hlt2
            rw [h1, List.append_assoc] at h2
            rw [show 2 * (k + 1) = 2 * k + 1 + 1 by omega, h2]
            exact unhex_snoc _ _ _ _ _ _ HB.out.1 hox hoy
          have HU := Lib.hid hun
          obtain ⟨D, hD⟩ : ∃ D : Int, D = ((16 * p + q : Nat) : Int) := ⟨_, rfl⟩
          have hor : bits BinOp.or IntKind.u8 ((p : Int) * 16) (q : Int) = D := by
            rw [u8_or _ _ (by omega) (by omega) (by omega) (by omega), hD, Int.toNat_natCast, show ((p : Int) * 16).toNat = p * 16 by omega, nat_join 4 (p * 16) q (by omega) (by omega), Nat.mul_comm]
          have HD := Lib.hid hD
          clear hox hoy e1 e2 hun hD hbad
          obtain ⟨v', w', hap, hown', hgr, _⟩ := app_new (P := Try.prog) Try.underlying37 hi hz0 hz1 hz2 rfl (by decide) hown 1 [.int .u8 D] rfl (by simp [Value.oneCell']) (by unfold maxLen; omega) (by omega) hbw.size
          go_wp2_with fail
          refine (half_any _ (some p) _ (by omega) (by omega) HX).mono ?_
          rintro e w1 ⟨rfl, rfl⟩
          go_wp2_with fail
          refine (half_any _ (some q) _ (by omega) (by omega) HY).mono ?_
          rintro e w1 ⟨rfl, rfl⟩
          go_wp2_with (at_builtin; refine wpList_append_run rfl _ _ _ rfl hap ?_)
          refine ⟨⟨k + 1, b ++ [UInt8.ofNat (16 * p + q)], by omega, by go_num, ⟨HU.out, by simp; omega⟩, ?_, Below.own hbw hown hgr (Nat.le_refl _) hbw.size⟩, by simp [intOf]; omega⟩
          rw [HD.out] at hown'
          rw [cellsOfB_app, List.length_append]
          have : cellsOfB [UInt8.ofNat (16 * p + q)] = [.int .u8 ((16 * p + q : Nat) : Int)] := by
            simp only [cellsOfB, List.map_cons, List.map_nil, UInt8.toNat_ofNat']
            rw [Nat.mod_eq_of_lt (by omega)]
          rw [this]
          exact hown'
      · have he : 2 * k = s.size := by omega
        have hu : unhex s.data.toList = some b := by
          have := HB.out.1
          rwa [he, take_all] at this
        have HU := Lib.hid hu
        clear hu he
        go_wp2_with fail
        go_ret2
        exact ⟨hbw, .inr ⟨b, _, HU.out, rfl, hown⟩⟩
end Go.Proofs.Ytljbehndnledpaa
