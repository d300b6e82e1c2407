/- The walk of heat.Map.Top. Conditions: those of each theorem. -/
import Derived.Test.YtljbehndnledpaaHeatSortF
import Derived.Test.YtljbehndnledpaaHeatSum
namespace Go.Proofs.Ytljbehndnledpaa
open Go.RowKit Go.Maps Go.ChangeMaps Go.MapKept

theorem owns_kept {w w' : World} {B : Nat} {e : TypeId} {size n : Nat} {v : Value} {xs : List Value} (h : w.ownsRow B e size v n xs) (hk : ∀ g, B ≤ g → g < w.heap.size → w'.heap[g]? = w.heap[g]?) : w'.ownsRow B e size v n xs := by
  refine ⟨h.1, ?_⟩
  rcases h.2 with h2 | ⟨g, cap, cur, hv, hg, hh, r⟩
  · exact .inl h2
  · exact .inr ⟨g, cap, cur, hv, hg, by rw [hk g hg (Array.getElem?_eq_some_iff.1 hh).1]; exact hh, r⟩

def keyU : Value → Int × Int
  | .agg #[.int _ x, .int _ y] => (x, y)
  | _ => (0, 0)
/-- An entry as a spot and its count. -/
def unH (e : MapEntry) : Hs := (keyU e.key, intOf e.val)
theorem ReadsH.un {es : List MapEntry} {L : List Hs} (h : ReadsH es L) : es.map unH = L := by
  have := congrArg (List.map fun q : Value × Value => ((keyU q.1, intOf q.2) : Hs)) h.eq
  simp only [List.map_map, Function.comp_def, kvE, kvH] at this
  have e2 : L.map (fun p : Hs => ((keyU (hsV p.1), intOf (.int .i64 p.2)) : Hs)) = L := by
    conv => rhs; rw [← List.map_id L]
    refine List.map_congr_left (fun p _ => ?_)
    rfl
  rw [e2] at this
  exact this
theorem topL_perm {a b : List Hs} (h : a.Perm b) : topL a = topL b := by
  unfold topL
  have h1 := List.mergeSort_perm a (fun x y => !(befH y x))
  have h2 := List.mergeSort_perm b (fun x y => !(befH y x))
  have tr : ∀ x y z : Hs, (!(befH y x)) = true → (!(befH z y)) = true → (!(befH z x)) = true := fun x y z e1 e2 => by
    simp only [Bool.not_eq_true'] at *
    exact befH_ntrans e2 e1
  have to : ∀ x y : Hs, (!(befH y x) || !(befH x y)) = true := fun x y => by
    cases e1 : befH y x
    · rfl
    · cases e2 : befH x y
      · rfl
      · rw [befH_iff] at e1 e2
        omega
  have s1 := List.pairwise_mergeSort tr to a
  have s2 := List.pairwise_mergeSort tr to b
  refine List.Perm.eq_of_pairwise (le := fun x y => (!(befH y x)) = true) (fun x y _ _ e1 e2 => ?_) s1 s2 ((h1.trans h).trans h2.symm)
  simp only [Bool.not_eq_true'] at e1 e2
  exact befH_total e2 e1

theorem HRow.take {w : World} {a : Option Addr} {n : Nat} {l : List Hs} (h : HRow w a n l) (k : Nat) (hk : k ≤ n) : HRow w a k (l.take k) :=
  ⟨by rw [List.length_take, h.1]; omega, fun i r hr => by
    have hi : i < k := by
      have := (List.getElem?_eq_some_iff.1 hr).1
      rw [List.length_take] at this
      omega
    rw [List.getElem?_take_of_lt hi] at hr
    exact h.2 i r hr⟩

theorem HRow.top {w : World} {a : Option Addr} {n : Nat} {l : List Hs} (h : HRow w a n l) (many : Int) (hn : l.length = n) : HRow w a (min (max many 0) (n : Int)).toNat (l.take many.toNat) := by
  have h2 := h.take (min (max many 0) (n : Int)).toNat (by omega)
  have e : l.take (min (max many 0) (n : Int)).toNat = l.take many.toNat := by
    rw [List.take_eq_take_iff]
    omega
  rw [e] at h2
  exact h2

set_option maxRecDepth 100000 in
set_option maxHeartbeats 4000000 in
theorem top_nil {w : World} {pm : Nat} {L : List Hs} (many : Int) (h : HeatW w pm none L) :
    Calls Try.prog 70 #[.pointer (some ⟨pm, 0, none⟩), .int .i64 many] w fun e w' => ∃ a n c, e = .returned (.slice a n c) ∧ HRow w' a n ((topL L).take many.toNat) ∧ Below w.heap.size w w' := by
  obtain ⟨c0, f0⟩ := h.reads
  have hL : L = [] := h.map
  have hnx : ∀ ty, (Instr.next (.pointer (some ⟨w.heap.size, 0, none⟩)) false ty).run Try.prog (w.alloc (.mapIter none 0 #[] 0)) = _ := fun ty => run_next_nilMap w ty 0 0 #[]
  have hb : Below w.heap.size w (w.alloc (.mapIter none 0 #[] 0)) := (Below.refl _ _).alloc (Nat.le_refl _) _
  have hown : OwnH (w.alloc (.mapIter none 0 #[] 0)) (w.heap.size + 1) (.slice none 0 0) [] := World.ownsRow_nil _ _ _ _
  have HS := Lib.hid (sortH_own hown (by simp) (by simp))
  clear h hown
  subst hL
  go_enter Try.func70, Try.ntmps70
  go_wp2_with (first | (at_range; refine wpList_range_nil rfl _ rfl rfl ?_) | go_in)
  go_frame
  refine wp_loop_rounds 1 ?_
  rw [rounds_succ]
  go_wp2_with fail
  refine HS.out.mono ?_
  rintro e w2 ⟨rfl, ho2, hb2⟩
  obtain ⟨a1, c1, he1, hr1, -⟩ := ho2.row
  rw [topL_len] at he1 hr1
  cases he1
  have hB2 := hb.trans (hb2.mono (by omega))
  have HR1 := Lib.hid hr1
  clear ho2 hr1 HS
  go_wp2_with fail
  go_ret
  exact ⟨none, _, 0, rfl, HR1.out.top many (topL_len []), hB2⟩

set_option maxRecDepth 100000 in
set_option maxHeartbeats 4000000 in
theorem top_some {w : World} {pm b : Nat} {L : List Hs} (many : Int) (h : HeatW w pm (some b) L) :
    Calls Try.prog 70 #[.pointer (some ⟨pm, 0, none⟩), .int .i64 many] w fun e w' => ∃ a n c, e = .returned (.slice a n c) ∧ HRow w' a n ((topL L).take many.toNat) ∧ Below w.heap.size w w' := by
  obtain ⟨c0, f0⟩ := h.reads
  obtain ⟨hL, -, -⟩ := h.ok
  obtain ⟨es, clock, hm⟩ := h.map
  have hk := hm.rd.spots
  have hun := hm.rd.un
  have hlt := hm.lt
  have hb : Below w.heap.size w (w.alloc (.mapIter (some b) clock #[] clock)) := (Below.refl _ _).alloc (Nat.le_refl _) _
  clear h
  go_enter Try.func70, Try.ntmps70
  go_wp2_with (first | (at_range; refine wpList_range_heat rfl _ rfl rfl hm ?_; intro hR0) | go_in)
  go_frame
  go_loopw [5, 6, 7] (fun u5 _ _ wr => ∃ (seen : Array Nat) (O : List Hs), Rng wr b w.heap.size es seen ∧ OwnH wr (w.heap.size + 1) u5 O ∧ (O ++ (leftOf es seen).toList.map unH).Perm L ∧ Below w.heap.size w wr ∧ w.heap.size + 1 ≤ wr.heap.size)
    (fun _ _ _ wr => wr.rangeLeft b w.heap.size)
  case atStart => exact ⟨#[], [], hR0, World.ownsRow_nil _ _ _ _, by rw [leftOf_nil, hun]; exact List.Perm.refl _, hb, by simp⟩
  case round =>
    obtain ⟨seen, O, hR, hown, hP, hB, hsz⟩ := hrel
    have hOl : O.length ≤ 1000000 := by
      have := hP.length_eq
      simp at this
      omega
    go_wp2_with (first
      | (at_next; refine wpList_next_heat rfl _ rfl rfl hR hk ?_ ?_)
      | go_in)
    · intro hl0
      rw [hl0] at hP
      simp only [List.map_nil, List.append_nil] at hP
      have hTT := topL_perm hP
      have hss := sortH_own hown (by omega) (by omega)
      have hlO := hP.length_eq
      obtain ⟨a0, cp, rfl, -, hcap⟩ := hown.row
      have HT := Lib.hid hTT
      clear hP hl0 hTT hown
      generalize O.length = nO at *
      subst hlO
      have HS := Lib.hid hss
      clear hss
      go_wp2_with fail
      refine HS.out.mono ?_
      rintro e w2 ⟨rfl, ho2, hb2⟩
      rw [HT.out] at ho2
      obtain ⟨a1, c1, he1, hr1, -⟩ := ho2.row
      rw [topL_len] at he1 hr1
      cases he1
      have hB2 := hB.trans (hb2.mono (by omega))
      have HR1 := Lib.hid hr1
      clear ho2 hr1 HS
      go_wp2_with fail
      go_ret
      exact ⟨a0, _, cp, rfl, HR1.out.top many (topL_len L), hB2⟩
    · intro e x y c w1 he hin hkey hval hR1 hg1 hs1 hen
      have he := Array.mem_toList_iff.2 he
      have hp := (left_perm hR.stamped.1 he).map unH
      have hue : unH e = ((x, y), c) := by
        unfold unH
        rw [hkey, hval]
        rfl
      rw [List.map_cons, hue] at hp
      have hP' : ((O ++ [((x, y), c)]) ++ (leftOf es (seen.push e.born)).toList.map unH).Perm L := by
        rw [List.append_assoc]
        exact (hp.symm.append_left O).trans hP
      have hown1 : OwnH (w1.alloc (.cells #[.int .i64 x, .int .i64 y] 99)) (w.heap.size + 1) u5 O := owns_kept hown (fun g hg hgl => by
        rw [Below.heap_alloc _ _ _ (by omega)]
        exact hg1.block g hgl (by simp; omega))
      obtain ⟨v', w', hap, ho', hg⟩ := hown1.push ((x, y), c) (by omega) (by simp; omega)
      simp only at hap
      have hlen := (left_perm hR.stamped.1 he).length_eq
      have hcx : (w1.alloc (.cells #[.int .i64 x, .int .i64 y] 99)).cell? ⟨w1.heap.size, 0, none⟩ = some (.int .i64 x) := cell_laid w1 _ _ 0
      have hcy : (w1.alloc (.cells #[.int .i64 x, .int .i64 y] 99)).cell? ⟨w1.heap.size, 1, none⟩ = some (.int .i64 y) := cell_laid w1 _ _ 1
      have hsz1 : (w1.alloc (.cells #[.int .i64 x, .int .i64 y] 99)).heap.size = wr.heap.size + 1 := by simp [hs1]
      have hB1 : Below w.heap.size w w1 := ⟨hg1.os.trans hB.os, hg1.tape.trans hB.tape, hg1.output.trans hB.output, by rw [hs1]; exact hB.size, fun k hk => (hg1.block k (Nat.lt_of_lt_of_le hk hB.size) (by simp; omega)).trans (hB.block k hk)⟩
      have hB2 : Below w.heap.size w (w1.alloc (.cells #[.int .i64 x, .int .i64 y] 99)) := hB1.alloc hB1.size _
      have hB3 : Below w.heap.size w w' := Below.own hB2 hown1 hg (by omega) (by omega)
      have hRl := hR1.lt
      have hold : ∀ k, k < w.heap.size + 1 → w'.heap[k]? = w1.heap[k]? := fun k hk => by
        rw [hg.block k (by omega) (fun e => by have := (hown1.lt k e.symm).1; omega), Below.heap_alloc _ _ _ (by omega)]
      have hR2 : Rng w' b w.heap.size es (seen.push e.born) := hR1.heap (hold b (by omega)) (hold _ (by omega))
      have hsz2 : w.heap.size + 1 ≤ w'.heap.size := by have := hg.size; omega
      rw [hsz1] at hap
      rw [hs1] at hcx hcy
      have HO := Lib.hid ho'
      have HP := Lib.hid hP'
      have HL : Hid ((leftOf es (seen.push e.born)).toList.length + 1 = (leftOf es seen).toList.length) := Lib.hid (by rw [hlen]; simp)
      have HM : wr.rangeLeft b w.heap.size = (leftOf es seen).toList.length := hR.left_eq
      have HM2 : w'.rangeLeft b w.heap.size = (leftOf es (seen.push e.born)).toList.length := hR2.left_eq
      clear hold hown1 ho' hP' hlen hg hp hP hown hg1
      go_wp2_with (at_builtin; refine wpList_append_run rfl _ _ _ rfl hap ?_)
      go_roundw
      case rel => exact ⟨_, _, hR2, HO.out, HP.out, hB3, hsz2⟩
      case measure => rw [HM, HM2]; have := HL.out; omega
/-- Top. -/
theorem top_heat {w : World} {pm : Nat} {ob : Option Nat} {L : List Hs} (many : Int) (h : HeatW w pm ob L) :
    Calls Try.prog 70 #[.pointer (some ⟨pm, 0, none⟩), .int .i64 many] w fun e w' => ∃ a n c, e = .returned (.slice a n c) ∧ HRow w' a n ((topL L).take many.toNat) ∧ Below w.heap.size w w' := by
  cases ob with
  | none => exact top_nil many h
  | some b => exact top_some many h
/-- Sum. -/
theorem sum_heat {w : World} {pm : Nat} {ob : Option Nat} {L : List Hs} (h : HeatW w pm ob L) (h0 : ∀ p ∈ L, 0 ≤ p.2) (hs : sumS L ≤ 1000000000000) :
    Calls Try.prog 68 #[.pointer (some ⟨pm, 0, none⟩)] w fun e w' => e = .returned (.int .i64 (sumS L)) ∧ Below w.heap.size w w' := by
  cases ob with
  | none =>
    have hL : L = [] := h.map
    subst hL
    exact sum_nil h
  | some b => exact sum_some h h0 hs
end Go.Proofs.Ytljbehndnledpaa
