/- The walk of export.Get. Conditions: those of each theorem. -/
import Derived.Test.YtljbehndnledpaaExportPut
import Derived.Test.YtljbehndnledpaaPackLaw
namespace Go.Proofs.Ytljbehndnledpaa
open Go.RowKit

/-- What Get comes to: size, bytes, error. -/
def getL : List UInt8 → Int × List UInt8 × Nat
  | [] => (0, [], 20)
  | c :: r => if (unpackL r 2048).2 = 0 then (if rightT (c.toNat : Int) (unpackL r 2048).1.length = true then ((c.toNat : Int), (unpackL r 2048).1, 0) else (0, [], 21)) else (0, [], (unpackL r 2048).2)

/-- How Get ends. -/
def GetEnds (R : Int × List UInt8 × Nat) (w : World) (e : Ending) (w' : World) : Prop :=
  Below w.heap.size w w' ∧ ∃ v, e = .returned (.tuple #[.agg #[.int .i64 R.1, v], .int .i64 (R.2.2 : Nat)]) ∧ w'.ownsRow w.heap.size 5 1 v R.2.1.length (cellsOfB R.2.1)

theorem get_results (tmps : Array Value) (B : Nat) (e v0 v1 : Value) (W : World) (h2 : tmps[2]? = some (.pointer (some ⟨B, 0, none⟩))) (h3 : tmps[3]? = some e) (q0 : W.cell? ⟨B, 0, none⟩ = some v0) (q1 : W.cell? ⟨B, 1, none⟩ = some v1) :
    (results Try.f40 tmps).run Try.prog W = .ok (.tuple #[.agg #[v0, v1], e]) W := by
  simp [results, Try.results40, go_sem, h2, h3, q0, q1]

/-- A slice of the call's own is kept by what writes below its blocks. -/
theorem own_above {w w' : World} {base : Nat} {e : TypeId} {size n : Nat} {v : Value} {xs : List Value} (h : w.ownsRow base e size v n xs) (hk : ∀ g, base ≤ g → w'.heap[g]? = w.heap[g]?) : w'.ownsRow base e size v n xs := by
  refine ⟨h.1, ?_⟩
  rcases h.2 with h2 | ⟨g, cap, cur, hv, hbg, hg, hr⟩
  · exact .inl h2
  · exact .inr ⟨g, cap, cur, hv, hbg, by rw [hk g hbg]; exact hg, hr⟩

theorem two_stores {w1 : World} {B : Nat} {x0 x1 : Value} (c0 : w1.cell? ⟨B, 0, none⟩ = some x0) (c1 : w1.cell? ⟨B, 1, none⟩ = some x1) (v0 v1 : Value) :
    ((w1.setCell ⟨B, 0, none⟩ v0).setCell ⟨B, 1, none⟩ v1).cell? ⟨B, 0, none⟩ = some v0 ∧ ((w1.setCell ⟨B, 0, none⟩ v0).setCell ⟨B, 1, none⟩ v1).cell? ⟨B, 1, none⟩ = some v1 := by
  have hne : (⟨B, 0, none⟩ : Addr) ≠ ⟨B, 1, none⟩ := by simp
  have h : (w1.setCell ⟨B, 0, none⟩ v0).cell? ⟨B, 1, none⟩ = some x1 := (World.cell?_setCell_other _ _ _ _ hne).trans c1
  exact ⟨(World.cell?_setCell_other _ _ _ _ hne.symm).trans (World.cell?_setCell_same _ _ _ c0), World.cell?_setCell_same _ _ _ h⟩

set_option maxRecDepth 100000 in
set_option maxHeartbeats 400000 in
theorem get_any (a : Option Addr) (n cap : Nat) (l : List UInt8) (w : World) (h : Bs w a n l) (hcap : n ≤ cap) (hn : n ≤ 100000) :
    Calls Try.prog 40 #[.slice a n cap] w (GetEnds (getL l) w) := by
  have hL := h.length
  cases l with
  | nil =>
    simp at hL
    subst hL
    obtain ⟨R, hR⟩ : ∃ R, R = getL [] := ⟨_, rfl⟩
    have hR' : R = (0, [], 20) := hR
    rw [← hR, hR']
    clear hR hR' h
    go_enter Try.func40, Try.ntmps40
    go_wp2_with fail
    refine bodyPost_ret (v := .tuple #[.agg #[.int .i64 0, .slice none 0 0], .int .i64 20]) (by simp [results, Try.results40, go_sem]) rfl ?_
    exact ⟨(Below.refl _ _).alloc (Nat.le_refl _) _, .slice none 0 0, rfl, World.ownsRow_nil _ _ _ _⟩
  | cons c r =>
    simp at hL
    subst hL
    obtain ⟨b, o, c', rfl, hc, hck, hbl⟩ := Bs.cell h 0 (by omega)
    simp at hc
    subst hc
    rw [Nat.add_zero] at hck
    have hcb : c.toNat < 256 := c.toNat_lt
    have htail := Bs.tail h 1 (by omega)
    simp only [Nat.add_sub_cancel, List.drop_succ_cons, List.drop_zero] at htail
    obtain ⟨U, hU⟩ : ∃ U, U = unpackL r 2048 := ⟨_, rfl⟩
    obtain ⟨G, hG⟩ : ∃ G, G = getL (c :: r) := ⟨_, rfl⟩
    rw [← hG]
    simp only [getL] at hG
    rw [← hU] at hG
    have hcon : ∀ (a1 : Option Addr) (c1 : Nat), ((a1 = some ⟨b, o + 1, none⟩ ∧ c1 = cap - 1) ∨ (cap = 1 ∧ c1 = 0)) → Calls Try.prog 105 #[.slice a1 r.length c1, .int .i64 2048] (w.alloc (.cells #[.int .i64 0, .slice none 0 0] 56)) (LooseEnds U (w.alloc (.cells #[.int .i64 0, .slice none 0 0] 56))) := by
      intro a1 k1 h1
      have hk1 : r.length ≤ k1 := by omega
      have hb1 : Bs w a1 r.length r := by
        rcases h1 with ⟨rfl, _⟩ | ⟨h1, _⟩
        · exact htail
        · have hr0 : r = [] := List.eq_nil_of_length_eq_zero (by omega)
          subst hr0
          exact Bs.none' _
      rw [hU]
      exact unpack_any a1 r.length k1 2048 r _ (hb1.below ((Below.refl _ _).alloc (Nat.le_refl _) _) (Nat.le_refl _)) (by omega) hk1
    have HC := Lib.hid hcon
    have HG := Lib.hid hG
    clear hcon hG hU htail h
    go_enter Try.func40, Try.ntmps40
    go_wp2_with fail
    all_goals
      first
        | (have hone : cap = 1 := by assumption
           refine (HC.out _ _ (.inr ⟨hone, rfl⟩)).mono ?_)
        | refine (HC.out _ _ (.inl ⟨rfl, rfl⟩)).mono ?_
      clear HC
      rintro e w1 ⟨hb1, v, rfl, ho⟩
      have hb0 : Below w.heap.size w w1 := ((Below.refl _ _).alloc (Nat.le_refl _) _).trans (hb1.mono (by simp))
      have c0 : w1.cell? ⟨w.heap.size, 0, none⟩ = some (.int .i64 0) := by rw [hb1.cell (by simp)]; simp
      have c1 : w1.cell? ⟨w.heap.size, 1, none⟩ = some (.slice none 0 0) := by rw [hb1.cell (by simp)]; simp
      have f0 : w1.frozen? ⟨w.heap.size, 0, none⟩ = false := by rw [hb1.frozen (by simp)]; simp
      have f1 : w1.frozen? ⟨w.heap.size, 1, none⟩ = false := by rw [hb1.frozen (by simp)]; simp
      have hlt : w.heap.size < w1.heap.size := by have := hb1.size; simp at this; omega
      have hc2 : w1.cell? ⟨b, o, none⟩ = some (.int .u8 (c.toNat : Int)) := by rw [hb0.cell hbl]; exact hck
      obtain ⟨d, f⟩ := U
      simp only at ho HG ⊢
      by_cases hf : f = 0
      · subst hf
        obtain ⟨a2, cap2, rfl⟩ := own_shape ho
        have hkk : ∀ W : World, Calls Try.prog 102 #[.agg #[.int .i64 (c.toNat : Int), .slice a2 d.length cap2]] W fun e w' => e = .returned (.bool (rightT (c.toNat : Int) d.length)) ∧ Below W.heap.size W w' := fun W => right_any _ a2 d.length cap2 W _ (Lib.hid rfl)
        have HO := Lib.hid ho
        obtain ⟨rt, hrt⟩ : ∃ rt, rt = rightT (c.toNat : Int) d.length := ⟨_, rfl⟩
        simp only [if_true] at HG
        rw [← hrt] at hkk HG
        have HK := Lib.hid hkk
        clear ho hkk hb1 hrt
        go_wp2_with fail
        refine (HK.out _).mono ?_
        rintro e w3 ⟨rfl, hb3⟩
        have hb4 : Below w.heap.size w w3 := (hb0.alloc (Nat.le_of_lt hlt) _).trans (hb3.mono (by simp; omega))
        have d0 : w3.cell? ⟨w1.heap.size, 0, none⟩ = some (.int .i64 (c.toNat : Int)) := by rw [hb3.cell (by simp)]; simp
        have d1 : w3.cell? ⟨w1.heap.size, 1, none⟩ = some (.slice a2 d.length cap2) := by rw [hb3.cell (by simp)]; simp
        have e0 : w3.cell? ⟨w.heap.size, 0, none⟩ = some (.int .i64 0) := by
          rw [hb3.cell (by simp; omega), World.cell?_of_block (w := w1) (Below.heap_alloc w1 _ _ hlt)]; exact c0
        have e1 : w3.cell? ⟨w.heap.size, 1, none⟩ = some (.slice none 0 0) := by
          rw [hb3.cell (by simp; omega), World.cell?_of_block (w := w1) (Below.heap_alloc w1 _ _ hlt)]; exact c1
        have g0 : w3.frozen? ⟨w.heap.size, 0, none⟩ = false := by
          rw [hb3.frozen (by simp; omega), World.frozen?_of_block (w := w1) (Below.heap_alloc w1 _ _ hlt)]; exact f0
        have g1 : w3.frozen? ⟨w.heap.size, 1, none⟩ = false := by
          rw [hb3.frozen (by simp; omega), World.frozen?_of_block (w := w1) (Below.heap_alloc w1 _ _ hlt)]; exact f1
        cases rt with
        | false =>
          have hG2 : G = (0, [], 21) := HG.out
          clear HG HK HO
          subst hG2
          go_wp2_with fail
          refine bodyPost_ret (get_results _ w.heap.size _ _ _ _ rfl rfl (two_stores e0 e1 _ _).1 (two_stores e0 e1 _ _).2) rfl ?_
          exact ⟨(hb4.setCell (Nat.le_refl _) _).setCell (Nat.le_refl _) _, .slice none 0 0, rfl, World.ownsRow_nil _ _ _ _⟩
        | true =>
          have hG2 : G = ((c.toNat : Int), d, 0) := HG.out
          clear HG HK
          subst hG2
          go_wp2_with fail
          refine bodyPost_ret (get_results _ w.heap.size _ _ _ _ rfl rfl (two_stores e0 e1 _ _).1 (two_stores e0 e1 _ _).2) rfl ?_
          have ho1 := own_keep HO.out ((Below.refl _ _).alloc (Nat.le_refl _) (.cells #[.int .i64 (c.toNat : Int), .slice a2 d.length cap2] 56))
          have ho2 := own_keep ho1 hb3
          refine ⟨(hb4.setCell (Nat.le_refl _) _).setCell (Nat.le_refl _) _, .slice a2 d.length cap2, rfl, ownsRow_base (own_above ho2 fun g hg => ?_) (by simp)⟩
          have hgn : g ≠ w.heap.size := by simp at hg; omega
          rw [Below.heap_setCell _ _ _ _ hgn, Below.heap_setCell _ _ _ _ hgn]
      · have hG2 : G = (0, [], f) := by rw [HG.out, if_neg hf]
        have hf0 : ((f : Int) == 0) = false := by rw [beq_eq_false_iff_ne]; omega
        clear HG
        subst hG2
        clear hb1 ho hf
        go_wp2_with fail
        refine bodyPost_ret (get_results _ w.heap.size _ _ _ _ rfl rfl (two_stores c0 c1 _ _).1 (two_stores c0 c1 _ _).2) rfl ?_
        exact ⟨(hb0.setCell (Nat.le_refl _) _).setCell (Nat.le_refl _) _, .slice none 0 0, rfl, World.ownsRow_nil _ _ _ _⟩
end Go.Proofs.Ytljbehndnledpaa
