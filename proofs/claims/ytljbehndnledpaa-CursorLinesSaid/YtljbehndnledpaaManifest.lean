/- The walks of manifest.Text and of the law ManifestTexts. Conditions: those of each theorem. -/
import Derived.Test.YtljbehndnledpaaSplit
namespace Go.Proofs.Ytljbehndnledpaa
open Go.RowKit

/-- A slice of lines: a block's number and a sum each. -/
def Lns (w : World) (a : Option Addr) (n : Nat) (l : List (Int × Nat)) : Prop :=
  l.length = n ∧ ∀ i x, l[i]? = some x → ∃ b o, a = some ⟨b, o, none⟩ ∧ w.cell? ⟨b, o + i * 2, none⟩ = some (.int .i64 x.1) ∧ w.cell? ⟨b, o + i * 2 + 1, none⟩ = some (.int .u32 (x.2 : Int))

theorem Lns.below {B : Nat} {w w' : World} {a : Option Addr} {n : Nat} {l : List (Int × Nat)} (h : Lns w a n l) (hb : Below B w w') (hB : w.heap.size ≤ B) : Lns w' a n l := by
  refine ⟨h.1, fun i x hx => ?_⟩
  obtain ⟨b, o, ha, h1, h2⟩ := h.2 i x hx
  have hlt := World.block_lt_of_cell? w _ h1
  refine ⟨b, o, ha, ?_, ?_⟩
  · rw [hb.cell (p := ⟨b, o + i * 2, none⟩) (by simp at hlt ⊢; omega)]; exact h1
  · rw [hb.cell (p := ⟨b, o + i * 2 + 1, none⟩) (by simp at hlt ⊢; omega)]; exact h2

/-- The four bytes of a sum, the highest first. -/
def four (n : Nat) : List UInt8 := [UInt8.ofNat (n / 16777216 % 256), UInt8.ofNat (n / 65536 % 256), UInt8.ofNat (n / 256 % 256), UInt8.ofNat (n % 256)]
def mline (x : Int × Nat) : List UInt8 := dec x.1.toNat ++ [32] ++ hexL (four x.2) ++ [10]
def mhead (z : Int) : List UInt8 := [115, 105, 122, 101, 32] ++ dec z.toNat ++ [10]
def mtext (l : List (Int × Nat)) (z : Int) : List UInt8 := mhead z ++ l.flatMap mline

theorem num_max (z u : Int) (w : World) (hz : z ≤ 9223372036854775807) (hu : u = ((z.toNat : Nat) : Int)) :
    Calls Try.prog 27 #[.int .u64 u] w fun e w' => e = .returned (.string (mkS (dec z.toNat))) ∧ Below w.heap.size w w' := by
  subst hu
  exact num_any z.toNat w (by omega)

theorem dec_short (z : Int) (hz : z ≤ 9223372036854775807) : (dec z.toNat).length ≤ 20 := by
  have h := val_ge (dec z.toNat) (digs_dec _) (dec_ne _)
  rcases Nat.lt_or_ge 20 (dec z.toNat).length with h2 | h2
  · have h3 := h (dec_head _ (by omega))
    rw [val_dec] at h3
    have h4 : 10 ^ 20 ≤ 10 ^ ((dec z.toNat).length - 1) := Nat.pow_le_pow_right (by omega) (by omega)
    omega
  · exact h2

theorem lit_mkS (a : List UInt8) : (⟨a.toArray⟩ : ByteArray) = mkS a := rfl

theorem bs_four (v : World) (q : Nat) (hq : q < 4294967296) :
    Bs (v.alloc (.cells #[Value.int IntKind.u8 ((q : Int) / 16777216), Value.int IntKind.u8 ((q : Int) / 65536 % 256), Value.int IntKind.u8 ((q : Int) / 256 % 256), Value.int IntKind.u8 ((q : Int) % 256)] 5)) (some ⟨v.heap.size, 0, none⟩) 4 (four q) := by
  refine Is.mk' rfl fun i hi => ?_
  rw [World.cell?_alloc_mark]
  match i, hi with
  | 0, _ => simp [four]; omega
  | 1, _ => simp [four]
  | 2, _ => simp [four]
  | 3, _ => simp [four]

theorem line_app (h : List UInt8) (bz : Int) (q : Nat) (g : List UInt8) (e : g = h) : mkS g ++ (mkS (dec bz.toNat) ++ ⟨#[32]⟩ ++ mkS (hexL (four q)) ++ ⟨#[10]⟩) = mkS (h ++ mline (bz, q)) := by
  subst e
  have e1 : (⟨#[32]⟩ : ByteArray) = mkS [32] := rfl
  have e2 : (⟨#[10]⟩ : ByteArray) = mkS [10] := rfl
  rw [e1, e2, mkS_app, mkS_app, mkS_app, mkS_app]
  rfl

set_option maxRecDepth 100000 in
set_option maxHeartbeats 4000000 in
theorem mtext_any (a : Option Addr) (n cap : Nat) (l : List (Int × Nat)) (z : Int) (w : World) (h : Lns w a n l) (hn : n ≤ 1000) (hz : z ≤ 9223372036854775807)
    (hl : ∀ x ∈ l, x.1 ≤ 9223372036854775807 ∧ x.2 < 4294967296) :
    Calls Try.prog 23 #[.slice a n cap, .int .i64 z] w fun e w' => e = .returned (.string (mkS (mtext l z))) ∧ Below w.heap.size w w' := by
  obtain ⟨r, hr⟩ : ∃ r, r = mtext l z := ⟨_, rfl⟩
  rw [← hr]
  have HR := Lib.hid hr
  clear hr
  have hds := dec_short z hz
  obtain ⟨d, hd⟩ : ∃ d, d = mkS (dec z.toNat) := ⟨_, rfl⟩
  have hdsz : d.size ≤ 20 := by rw [hd, mkS_size]; exact hds
  have HD := Lib.hid hd
  clear hd hds
  rcases (by omega : (z < 0 ∧ z ≤ 0 ∧ ¬ 0 ≤ z) ∨ (0 ≤ z ∧ ¬ z < 0)) with ⟨z1, z2, z3⟩ | ⟨z1, z2⟩
  all_goals
    go_enter Try.func23, Try.ntmps23
    go_wp2_with fail
  all_goals
    refine (num_max z _ _ hz (by omega)).mono ?_
    rintro e w1 ⟨rfl, hb1⟩
    rw [← HD.out]
    go_wp2_with fail
  all_goals
    go_loopw [5, 17] (fun u5 u17 wr => ∃ (k : Nat) (t : ByteArray), k ≤ n ∧ u17 = .int .i64 k ∧ u5 = .string t ∧ t.size ≤ 26 + 30 * k ∧ Hid (t = mkS (mhead z ++ (l.take k).flatMap mline)) ∧ Below w.heap.size w wr) (fun _ u17 _ => n - (intOf u17).toNat)
    case atStart =>
      refine ⟨0, _, by omega, rfl, rfl, ?_, Lib.hid ?_, hb1⟩
      · rw [ByteArray.size_append, ByteArray.size_append]
        have e1 : (⟨#[115, 105, 122, 101, 32]⟩ : ByteArray).size = 5 := rfl
        have e2 : (⟨#[10]⟩ : ByteArray).size = 1 := rfl
        omega
      · rw [HD.out]
        have e1 : (⟨#[115, 105, 122, 101, 32]⟩ : ByteArray) = mkS [115, 105, 122, 101, 32] := rfl
        have e2 : (⟨#[10]⟩ : ByteArray) = mkS [10] := rfl
        rw [e1, e2, mkS_app, mkS_app]
        simp [mhead]
    case round =>
      obtain ⟨k, t, hk, rfl, rfl, hts, HT, hbw⟩ := hrel
      by_cases hlt : k < n
      · have hll : l.length = n := h.1
        have hm : l[k] ∈ l := List.getElem_mem (by omega)
        obtain ⟨hx1, hx2⟩ := hl _ hm
        obtain ⟨b, o, rfl, hc1, hc2⟩ := h.2 k l[k] (List.getElem?_eq_getElem (by omega))
        rw [← hbw.cell (World.block_lt_of_cell? w _ hc1)] at hc1
        rw [← hbw.cell (World.block_lt_of_cell? w _ hc2)] at hc2
        have hnew : (l.take (k + 1)).flatMap mline = (l.take k).flatMap mline ++ mline l[k] := by
          rw [List.take_succ_eq_append_getElem (by omega), List.flatMap_append]; simp
        generalize l[k] = x at *
        obtain ⟨bz, q⟩ := x
        simp only at hc1 hc2 hx1 hx2
        have HN := Lib.hid hnew
        clear hnew hm hll
        have hb4 := bs_four (wr.alloc (.cells #[Value.int IntKind.i64 bz, Value.int IntKind.u32 (q : Int)] 36)) q hx2
        obtain ⟨hxd, hxs⟩ : ∃ hxd, hxd = mkS (hexL (four q)) := ⟨_, rfl⟩
        have hxsz : hxd.size = 8 := by rw [hxs, mkS_size, hexL_len]; rfl
        have HX := Lib.hid hxs
        clear hxs
        have hbd := dec_short bz hx1
        obtain ⟨bd, hbs⟩ : ∃ bd, bd = mkS (dec bz.toNat) := ⟨_, rfl⟩
        have hbsz : bd.size ≤ 20 := by rw [hbs, mkS_size]; exact hbd
        have HB := Lib.hid hbs
        clear hbs hbd
        have hB0 : Below w.heap.size w ((wr.alloc (.cells #[Value.int IntKind.i64 bz, Value.int IntKind.u32 (q : Int)] 36)).alloc (.cells #[Value.int IntKind.u8 ((q : Int) / 16777216), Value.int IntKind.u8 ((q : Int) / 65536 % 256), Value.int IntKind.u8 ((q : Int) / 256 % 256), Value.int IntKind.u8 ((q : Int) % 256)] 5)) :=
          (hbw.alloc hbw.size _).alloc (by have := hbw.size; simp; omega) _
        have H4 := Lib.hid hb4
        have HB0 := Lib.hid hB0
        clear hb4 hB0
        rcases (by omega : (bz < 0 ∧ ¬ 0 ≤ bz) ∨ (0 ≤ bz ∧ ¬ bz < 0)) with ⟨y1, y2⟩ | ⟨y1, y2⟩
        all_goals
          go_wp2_with fail
          refine (num_max bz _ _ hx1 (by omega)).mono ?_
          rintro e w2 ⟨rfl, hb2⟩
          rw [← HB.out]
          have hb4 := H4.out.below hb2 (Nat.le_refl _)
          have hB2 := HB0.out.trans (hb2.mono HB0.out.size)
          rw [show (wr.alloc (.cells #[Value.int IntKind.i64 bz, Value.int IntKind.u32 (q : Int)] 36)).heap.size = wr.heap.size + 1 by simp] at hb4
          clear hb2
          go_wp2_with fail
          refine (hex_any (some ⟨wr.heap.size + 1, 0, none⟩) 4 4 (four q) w2 hb4 (by omega)).mono ?_
          rintro e w3 ⟨rfl, hb3⟩
          rw [lit_mkS, ← HX.out]
          have hB3 := hB2.trans (hb3.mono hB2.size)
          have hsp : (⟨#[32]⟩ : ByteArray).size = 1 := rfl
          have hnl : (⟨#[10]⟩ : ByteArray).size = 1 := rfl
          go_wp2_with fail
          refine ⟨⟨k + 1, _, by omega, by go_num, rfl, ?_, Lib.hid ?_, hB3⟩, by simp [intOf]; omega⟩
          · simp only [ByteArray.size_append]; omega
          · rw [HB.out, HX.out, HN.out, HT.out]; rw [← List.append_assoc]; exact line_app _ _ _ _ rfl
      · obtain rfl : k = n := by omega
        rw [List.take_of_length_le (by rw [h.1]; omega)] at HT
        have ht : t = mkS r := by rw [HT.out, HR.out]; rfl
        subst ht
        go_wp2_with fail
        go_ret
        exact ⟨rfl, hbw⟩
end Go.Proofs.Ytljbehndnledpaa
