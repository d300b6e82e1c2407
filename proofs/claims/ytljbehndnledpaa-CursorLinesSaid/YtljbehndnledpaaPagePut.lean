/- The walk of yesteryearref05.Put. Conditions: those of the theorem. -/
import Derived.Test.YtljbehndnledpaaPagePlain
import Derived.Test.YtljbehndnledpaaExportPut
namespace Go.Proofs.Ytljbehndnledpaa
open Go.RowKit

theorem own_four (w : World) (x y : Int) (c d : UInt8) (hx : x = (c.toNat : Int)) (hy : y = (d.toNat : Int)) : (w.alloc (.cells #[.int .u8 157, .int .u8 76, .int .u8 x, .int .u8 y] 5)).ownsRow w.heap.size 5 1 (.slice (some ⟨w.heap.size, 0, none⟩) 4 4) [157, 76, c, d].length (cellsOfB [157, 76, c, d]) := by
  subst hx hy
  exact ⟨rfl, .inr ⟨w.heap.size, 4, #[.int .u8 157, .int .u8 76, .int .u8 (c.toNat : Int), .int .u8 (d.toNat : Int)], rfl, Nat.le_refl _, heap_alloc_new w _, Nat.le_refl _, by unfold maxLen; omega, rfl, rfl⟩⟩

set_option maxRecDepth 100000 in
set_option maxHeartbeats 1000000 in
theorem refPage_any (k : UInt8) (b o n cap : Nat) (body : List UInt8) (w : World) (h : Bs w (some ⟨b, o, none⟩) n body) (hn : n ≤ 120) :
    Calls Try.prog 109 #[.int .i64 (k.toNat : Int), .slice (some ⟨b, o, none⟩) n cap] w fun e w' => ∃ v, e = .returned v ∧ w'.ownsRow w.heap.size 5 1 v (pageP k body).length (cellsOfB (pageP k body)) ∧ Below w.heap.size w w' := by
  have hL := h.length
  have hkb := k.toNat_lt
  have hw1 : IntKind.u8.wrap (k.toNat : Int) = k.toNat := by rw [IntKind.wrap_u8']; omega
  have hw2 : IntKind.u8.wrap (n : Int) = n := by rw [IntKind.wrap_u8']; omega
  have hb0 : Below w.heap.size w (w.alloc (.cells #[.int .u8 157, .int .u8 76, .int .u8 (k.toNat : Int), .int .u8 (n : Int)] 5)) := (Below.refl _ _).alloc (Nat.le_refl _) _
  have hown := own_four w (k.toNat : Int) (n : Int) k (UInt8.ofNat n) rfl (by rw [UInt8.toNat_ofNat']; omega)
  obtain ⟨v0, w0, hap0, ho0, hg0⟩ := app_src hown cap (h.below hb0 (Nat.le_refl _)) (by simp; omega) hb0.size
  have hb1 := Below.own hb0 hown hg0 (Nat.le_refl _) hb0.size
  obtain ⟨A, hA⟩ : ∃ A, A = [157, 76, k, UInt8.ofNat n] ++ body := ⟨_, rfl⟩
  rw [← hA] at ho0
  have hAl : A.length = 4 + n := by rw [hA]; simp [hL]; omega
  have hHead : headP k body = A ++ List.replicate (120 - n) 0 := by rw [hA]; simp [headP, hL]
  have HH := Lib.hid hHead
  have hpl : pageP k body = headP k body ++ leN 4 (crcL (headP k body)) := rfl
  have hhl := headP_length k body (by omega)
  have hcl := crcL_lt (headP k body)
  obtain ⟨H, hH⟩ : ∃ H, H = headP k body := ⟨_, rfl⟩
  rw [← hH] at hpl hhl hcl hHead
  have HP := Lib.hid hpl
  have HE := Lib.hid hHead
  clear hHead hpl HH hown hg0 hb0 hA h hH
  go_enter Try.func109, Try.ntmps109
  go_wp2_with (at_builtin; refine wpList_append_run rfl _ _ _ rfl hap0 ?_)
  go_loopw [5] (fun u5 wr => ∃ j : Nat, j ≤ 120 - n ∧ wr.ownsRow w.heap.size 5 1 u5 (A ++ List.replicate j 0).length (cellsOfB (A ++ List.replicate j 0)) ∧ Below w.heap.size w wr) (fun u5 _ => match u5 with | .slice _ m _ => 124 - m | _ => 0)
  case atStart => exact ⟨0, by omega, by simpa using ho0, hb1⟩
  case round =>
    clear hap0 ho0 hb1
    obtain ⟨j, hj, hown, hbw⟩ := hrel
    obtain ⟨a5, c5, rfl⟩ := own_shape hown
    have hl : (A ++ List.replicate j (0 : UInt8)).length = 4 + n + j := by rw [List.length_append, List.length_replicate, hAl]
    by_cases hlt : 4 + n + j < 124
    · obtain ⟨v', w', hap, hown', hgr⟩ := app_byte hown 0 0 rfl (by omega) hbw.size
      have hbw' := Below.own hbw hown hgr (Nat.le_refl _) hbw.size
      have hs : A ++ List.replicate j (0 : UInt8) ++ [0] = A ++ List.replicate (j + 1) 0 := by rw [List.append_assoc, List.replicate_succ']
      rw [hs] at hown'
      have hl2 : (A ++ List.replicate (j + 1) (0 : UInt8)).length = 4 + n + (j + 1) := by rw [List.length_append, List.length_replicate, hAl]
      obtain ⟨a6, c6, rfl⟩ := own_shape hown'
      rw [hl] at hap ⊢
      rw [hl2] at hap hown' 
      have HO := Lib.hid hown'
      have hlti : (4 : Int) + (n : Int) + (j : Int) < 124 := by omega
      clear hs hown hown' hgr hl hl2
      go_wp2_with (at_builtin; refine wpList_append_run rfl _ _ _ rfl hap ?_)
      exact ⟨⟨j + 1, by omega, by rw [List.length_append, List.length_replicate, hAl]; exact HO.out, hbw'⟩, by show 124 - (4 + n + (j + 1)) < 124 - (4 + n + j); omega⟩
    · have hj2 : j = 120 - n := by omega
      subst hj2
      rw [← HE.out, hhl] at hown
      have hown2 : wr.ownsRow w.heap.size 5 1 (.slice a5 124 c5) 124 (cellsOfB H) := hown
      obtain ⟨g5, c5', e5⟩ := own_some hown2 (by omega)
      cases e5
      obtain ⟨a6, c6, e6, hbs, _⟩ := own_bs hown2
      cases e6
      rw [hl, show 4 + n + (120 - n) = 124 by omega]
      have hgo := refGo_any 0 (some ⟨g5, 0, none⟩) 124 c5 H wr (by omega) hbs (by omega)
      rw [show crcGo (0 ^^^ 4294967295) H ^^^ 4294967295 = crcL H from rfl, Int.natCast_zero] at hgo
      have HG := Lib.hid hgo
      have HBS := Lib.hid hbs
      clear hgo hbs hown hown2 hl hlt
      go_wp2_with fail
      refine HG.out.mono ?_
      clear HG
      rintro e w2 ⟨rfl, hb2⟩
      have hb3 := hbw.trans (hb2.mono hbw.size)
      have hput := refPut_any g5 0 124 c5 (crcL H) H w2 (HBS.out.below hb2 (Nat.le_refl _)) (by omega) (by omega)
      rw [← HP.out] at hput
      have HPUT := Lib.hid hput
      have hw3 : IntKind.u64.wrap (crcL H : Int) = (crcL H : Int) := by simp only [IntKind.wrap, IntKind.bits, IntKind.signed]; simp; omega
      clear hput hb2
      go_wp2_with fail
      refine HPUT.out.mono ?_
      rintro e w4 ⟨v, rfl, ho, hb4⟩
      go_wp2_with fail
      go_ret
      exact ⟨v, rfl, ownsRow_base ho hb3.size, hb3.trans (hb4.mono hb3.size)⟩
end Go.Proofs.Ytljbehndnledpaa
