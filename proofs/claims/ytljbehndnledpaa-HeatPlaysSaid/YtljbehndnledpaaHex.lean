/- The walks of text.digit, Hex, half, Bytes and yesteryearref08.Hex: bytes as pairs of digits. Conditions: those of each theorem. -/
import Derived.Test.YtljbehndnledpaaRead
namespace Go.Proofs.Ytljbehndnledpaa
open Go.RowKit

/-- A slice of bytes that reads as l. -/
def Bs (w : World) (a : Option Addr) (n : Nat) (l : List UInt8) : Prop := Is .u8 w a n (l.map fun c => (c.toNat : Int))

/-- The digit of a half. -/
def hexD (n : Nat) : UInt8 := UInt8.ofNat (if n < 10 then 48 + n else 87 + n)
def hexL (l : List UInt8) : List UInt8 := l.flatMap fun c => [hexD (c.toNat / 16), hexD (c.toNat % 16)]

theorem hexD_nat (n : Nat) (h : n < 16) : (hexD n).toNat = if n < 10 then 48 + n else 87 + n := by
  unfold hexD
  rw [UInt8.toNat_ofNat']
  split <;> omega

set_option maxHeartbeats 400000 in
theorem digit_any (z d : Int) (w : World) (h0 : 0 ≤ z) (h : z < 16) (hd : Hid (d = ((hexD z.toNat).toNat : Int))) :
    Calls Try.prog 98 #[.int .u8 z] w fun e w' => e = .returned (.int .u8 d) ∧ w = w' := by
  have hd' := hd.out
  rw [hexD_nat z.toNat (by omega)] at hd'
  by_cases h10 : z < 10
  · rw [if_pos (by omega)] at hd'
    have hd2 : d = 48 + z := by omega
    subst hd2
    clear hd hd'
    go_enter Try.func98, Try.ntmps98
    go_wp2_with fail
    go_ret
    exact ⟨ret_int (by omega), rfl⟩
  · rw [if_neg (by omega)] at hd'
    have hd2 : d = 97 + z - 10 := by omega
    subst hd2
    clear hd hd'
    go_enter Try.func98, Try.ntmps98
    go_wp2_with fail
    go_ret
    exact ⟨ret_int (by omega), rfl⟩

theorem info5 : (Try.prog.info? 5).map (fun i => (i.zero, i.size, i.bytes)) = some (some (.int .u8 0), 1, 1) := by kernel_rfl

theorem hexL_snoc (l : List UInt8) (c : UInt8) : hexL (l ++ [c]) = hexL l ++ [hexD (c.toNat / 16), hexD (c.toNat % 16)] := by simp [hexL]
theorem hexL_len (l : List UInt8) : (hexL l).length = 2 * l.length := by
  induction l with
  | nil => rfl
  | cons c l ih => simp only [hexL, List.flatMap_cons, List.length_append, List.length_cons, List.length_nil] at ih ⊢; omega

theorem map_getD (l : List UInt8) (k : Nat) (h : k < l.length) : (l.map fun c => (c.toNat : Int)).getD k 0 = (l[k].toNat : Int) := by
  rw [List.getD_eq_getElem?_getD, List.getElem?_map, List.getElem?_eq_getElem h]; rfl

/-- Bytes as cells. -/
def cellsOfB (l : List UInt8) : List Value := l.map fun c => .int .u8 (c.toNat : Int)

/-- An append whose run is known. -/
theorem wpList_append_run {P : Program} {w : World} {ops : Array Oper} {rest : List Oper} {o : Oper} {a : Act} {Q : Exit → Act → World → Prop} (hgd : o.guard = none) (s x : Operand) (t : TypeId)
    (ho : o.op = .call { callee := .builtin .append, args := #[s, x], argTypes := #[t, t] }) {v' : Value} {w' : World}
    (hrun : (Builtin.append_ #[t, t] o.type #[a.eval s, a.eval x]).run P w = .ok v' w') (h : wpList P ops Q rest (a.put o.dst v') w') : wpList P ops Q (o :: rest) a w :=
  wpList_plain hgd fun _ hK => by
    unfold Oper.wp execOp
    simp only [ho, resolve, invoke, builtin, Sem.run_bind, Sem.run_pure, Result.andThen_ok, List.map_toArray, List.map_cons, List.map_nil, hrun]
    exact hK _ _ h

theorem cellsOfB_app (a b : List UInt8) : cellsOfB (a ++ b) = cellsOfB a ++ cellsOfB b := by simp [cellsOfB]

/-- A slice of bytes of the call's own, as a text. -/
theorem str_of_own {w : World} {base n : Nat} {v : Value} {l : List UInt8} (h : w.ownsRow base 5 1 v n (cellsOfB l)) :
    (convert 37 9 v).run Try.prog w = .ok (.string ⟨l.toArray⟩) w := by
  have hl : l.length = n := by have := h.1; simpa [cellsOfB] using this
  rcases h.2 with ⟨rfl, rfl⟩ | ⟨g, cap, cur, rfl, hbg, hg, hnc, hcm, hcs, htake⟩
  · have : l = [] := List.eq_nil_of_length_eq_zero hl
    subst this
    rw [run_convert_bytes_string w 37 9 5 none 0 0 Try.underlying37 Try.underlying5 Try.underlying9]
    rfl
  · refine str_of_cells hl Try.underlying37 Try.underlying5 Try.underlying9 fun j c hc => ?_
    have := h.cells (g := g) rfl j (.int .u8 (c.toNat : Int)) (by simp [cellsOfB, hc])
    rw [← this]
    congr 1
    unfold Addr.add
    split <;> simp_all

set_option maxRecDepth 100000 in
set_option maxHeartbeats 1000000 in
theorem hex_any (a : Option Addr) (n cap : Nat) (l : List UInt8) (w : World) (hb : Bs w a n l) (hn : n ≤ 1000000000) :
    Calls Try.prog 29 #[.slice a n cap] w fun e w' => e = .returned (.string ⟨(hexL l).toArray⟩) ∧ Below w.heap.size w w' := by
  obtain ⟨i0, hi, hz0, hz1, hz2⟩ := info_parts info5
  obtain ⟨w1, hmk, hown1, hg1⟩ := run_make_own (P := Try.prog) w w.heap.size 37 5 i0 (.int .u8 0) 1 Try.underlying37 hi hz0 hz1 .i64 .i64 (2 * n) (by rw [hz2]; omega) (by unfold maxLen; omega) (Nat.le_refl _)
  have e2 : ((2 * n : Nat) : Int) = 2 * (n : Int) := by omega
  rw [e2] at hmk
  have hb1 : Below w.heap.size w w1 := (Below.refl _ _).grown hg1 (Nat.le_refl _) (fun k h => by cases h)
  go_enter Try.func29, Try.ntmps29
  go_wp2_with fail
  go_loopw [3, 12] (fun u3 u12 wr => ∃ k : Nat, k ≤ n ∧ u12 = .int .i64 k ∧ wr.ownsRow w.heap.size 5 1 u3 (2 * k) (cellsOfB (hexL (l.take k))) ∧ Below w.heap.size w wr) (fun _ u12 _ => n - (intOf u12).toNat)
  case atStart => exact ⟨0, by omega, rfl, hown1, hb1⟩
  case round =>
    obtain ⟨k, hk, rfl, hown, hbw⟩ := hrel
    have hll : l.length = n := by have := hb.len; simpa using this
    by_cases hlt : k < n
    · obtain ⟨b, o, rfl, hc⟩ := hb.at (by omega)
      have hck := hc k hlt
      rw [← hbw.cell (World.block_lt_of_cell? w _ hck), map_getD l k (by omega)] at hck
      have hx : l[k].toNat < 256 := UInt8.toNat_lt _
      have hsn := hexL_snoc (l.take k) l[k]
      rw [← List.take_succ_eq_append_getElem (by omega)] at hsn
      generalize l[k].toNat = x at *
      have hand : bits BinOp.and IntKind.u8 (x : Int) 15 = ((x % 16 : Nat) : Int) := by rw [u8_and (x : Int) 15 (by omega) (by omega) (by omega) (by omega)]; simp [nat_mask4]
      have HSN := Lib.hid hsn
      clear hc hsn
      obtain ⟨d1, hd1⟩ : ∃ d : Int, d = ((hexD ((x : Int) / 16).toNat).toNat : Int) := ⟨_, rfl⟩
      obtain ⟨d2, hd2⟩ : ∃ d : Int, d = ((hexD ((x : Int) % 16).toNat).toNat : Int) := ⟨_, rfl⟩
      have D1 := Lib.hid hd1
      have D2 := Lib.hid hd2
      clear hd1 hd2
      obtain ⟨v', w', hap, hown', hgr, _⟩ := app_new (P := Try.prog) Try.underlying37 hi hz0 hz1 hz2 rfl (by decide) hown 2 [.int .u8 d1, .int .u8 d2] rfl (by simp [Value.oneCell']) (by unfold maxLen; omega) (by omega) hbw.size
      go_wp2_with fail
      refine (digit_any _ d1 _ (by omega) (by omega) D1).mono ?_
      rintro e w2 ⟨rfl, rfl⟩
      go_wp2_with fail
      refine (digit_any _ d2 _ (by omega) (by omega) D2).mono ?_
      rintro e w2 ⟨rfl, rfl⟩
      go_wp2_with (at_builtin; refine wpList_append_run rfl _ _ _ rfl hap ?_)
      refine ⟨⟨k + 1, by omega, by go_num, ?_, Below.own hbw hown hgr (Nat.le_refl _) hbw.size⟩, by simp [intOf]; omega⟩
      rw [HSN.out, cellsOfB_app, show 2 * (k + 1) = 2 * k + 2 by omega]
      have e1 : ((x : Int) / 16).toNat = x / 16 := by omega
      have e2 : ((x : Int) % 16).toNat = x % 16 := by omega
      have g1 := D1.out
      have g2 := D2.out
      rw [e1] at g1
      rw [e2] at g2
      rw [g1, g2] at hown'
      exact hown'
    · obtain rfl : k = n := by omega
      rw [List.take_of_length_le (by omega)] at hown
      have hcv := str_of_own hown
      go_wp2_with fail
      go_ret
      exact ⟨rfl, hbw⟩
/-- One of the sixteen digits. -/
theorem sixteenDigs : ∀ k : Fin 16, (⟨#[48, 49, 50, 51, 52, 53, 54, 55, 56, 57, 97, 98, 99, 100, 101, 102]⟩ : ByteArray).extract k.val (k.val + 1) = ⟨[hexD k.val].toArray⟩ := by decide +kernel

set_option maxRecDepth 100000 in
set_option maxHeartbeats 1000000 in
theorem refHex_any (a : Option Addr) (n cap : Nat) (l : List UInt8) (w : World) (hb : Bs w a n l) (hn : n ≤ 1000000000) :
    Calls Try.prog 22 #[.slice a n cap] w fun e w' => e = .returned (.string ⟨(hexL l).toArray⟩) ∧ Below w.heap.size w w' := by
  go_enter Try.func22, Try.ntmps22
  go_wp2_with fail
  go_loopw [3, 4] (fun u3 u4 wr => ∃ k : Nat, k ≤ n ∧ u4 = .int .i64 k ∧ u3 = .string ⟨(hexL (l.take k)).toArray⟩ ∧ Below w.heap.size w wr) (fun _ u4 _ => n - (intOf u4).toNat)
  case atStart => exact ⟨0, by omega, rfl, rfl, Below.refl _ _⟩
  case round =>
    obtain ⟨k, hk, rfl, rfl, hbw⟩ := hrel
    have hll : l.length = n := by have := hb.len; simpa using this
    by_cases hlt : k < n
    · obtain ⟨b, o, rfl, hc⟩ := hb.at (by omega)
      have hck := hc k hlt
      rw [← hbw.cell (World.block_lt_of_cell? w _ hck), map_getD l k (by omega)] at hck
      have hx : l[k].toNat < 256 := UInt8.toNat_lt _
      have hsn := hexL_snoc (l.take k) l[k]
      rw [← List.take_succ_eq_append_getElem (by omega)] at hsn
      have hlen := hexL_len (l.take k)
      rw [List.length_take] at hlen
      generalize l[k].toNat = x at *
      obtain ⟨s0, hs0⟩ : ∃ s0 : ByteArray, s0 = ⟨(hexL (l.take k)).toArray⟩ := ⟨_, rfl⟩
      have hsz : s0.size ≤ 2000000000 := by rw [hs0]; show (hexL (l.take k)).toArray.size ≤ _; rw [List.size_toArray]; omega
      rw [← hs0]
      have HS0 := Lib.hid hs0
      have HSN := Lib.hid hsn
      clear hc hsn hs0 hlen
      go_wp2_with fail
      go_quiet (fail)
      go_wp2_with fail
      go_quiet (fail)
      go_wp2_with fail
      refine ⟨⟨k + 1, by omega, by go_num, congrArg Value.string ?_, below_drewN hbw _⟩, by simp [intOf]; omega⟩
      have h1 := sixteenDigs ⟨x / 16, by omega⟩
      have h2 := sixteenDigs ⟨x % 16, by omega⟩
      simp only at h1 h2
      rw [h1, h2, HSN.out, HS0.out, bytes_app, bytes_app]
      rfl
    · obtain rfl : k = n := by omega
      rw [List.take_of_length_le (by omega)]
      go_wp2_with fail
      go_ret
      exact ⟨rfl, hbw⟩
end Go.Proofs.Ytljbehndnledpaa
