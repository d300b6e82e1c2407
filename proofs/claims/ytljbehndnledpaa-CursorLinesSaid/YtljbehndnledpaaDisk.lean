/- A disk as it lies in memory, and the walks of its small functions. Conditions: those of each theorem. -/
import Derived.Test.YtljbehndnledpaaPageGet
namespace Go.Proofs.Ytljbehndnledpaa
open Go.RowKit

/-- The block b has cells of a type. -/
def At (w : World) (b : Nat) (t : TypeId) : Prop := ∃ arr, w.heap[b]? = some (.cells arr t (0, 0))
theorem At.lt {w : World} {b : Nat} {t : TypeId} (h : At w b t) : b < w.heap.size := by
  obtain ⟨arr, h⟩ := h
  exact (Array.getElem?_eq_some_iff.1 h).1
theorem At.below {w w' : World} {b : Nat} {t : TypeId} (h : At w b t) (hb : Below w.heap.size w w') : At w' b t := by
  have hl := h.lt
  obtain ⟨arr, h⟩ := h
  exact ⟨arr, by rw [hb.block b hl]; exact h⟩
theorem At.ne {w : World} {b c : Nat} {t u : TypeId} (h : At w b t) (h' : At w c u) (hne : t ≠ u) : b ≠ c := by
  rintro rfl
  obtain ⟨arr, h⟩ := h
  obtain ⟨arr', h'⟩ := h'
  rw [h] at h'
  cases h'
  exact hne rfl
theorem At.frozen {w : World} {b : Nat} {t : TypeId} (h : At w b t) (k : Nat) : w.frozen? ⟨b, k, none⟩ = false := by
  obtain ⟨arr, h⟩ := h
  simp [World.frozen?, h]

theorem cell_heap {w w' : World} {g : Nat} (e : w'.heap[g]? = w.heap[g]?) (k : Nat) : w'.cell? ⟨g, k, none⟩ = w.cell? ⟨g, k, none⟩ := by simp [World.cell?, e]
theorem At.heap {w w' : World} {g : Nat} {t : TypeId} (h : At w g t) (e : w'.heap[g]? = w.heap[g]?) : At w' g t := by
  obtain ⟨arr, h⟩ := h
  exact ⟨arr, by rw [e]; exact h⟩
theorem At.set {w : World} {b : Nat} {t : TypeId} (h : At w b t) (k : Nat) (v : Value) : At (w.setCell ⟨b, k, none⟩ v) b t := by
  obtain ⟨arr, h⟩ := h
  exact ⟨_, heap_setCell_same w b k arr t v h⟩
theorem Bs.heap {w w' : World} {g o n : Nat} {l : List UInt8} (h : Bs w (some ⟨g, o, none⟩) n l) (e : w'.heap[g]? = w.heap[g]?) : Bs w' (some ⟨g, o, none⟩) n l := by
  have hl := h.length
  refine Is.mk' (by simp; omega) fun i hi => ?_
  obtain ⟨b', o', c, ha, hc, hcell, _⟩ := Bs.cell h i hi
  cases ha
  rw [cell_heap e, hcell, map_getD _ i (by omega)]
  rw [List.getElem?_eq_getElem (by omega)] at hc
  cases hc
  rfl

/-- What has been written, and is not sure yet. -/
def Late (base : Nat) (w : World) (lv : Value) (late : List (Nat × List UInt8)) : Prop :=
  ∃ cs, w.ownsRow base 179 2 lv late.length cs ∧ ∀ j x, late[j]? = some x → ∃ g c, At w g 5 ∧ 128 ≤ c ∧ cs[2 * j]? = some (.int .i64 (x.1 : Int)) ∧ cs[2 * j + 1]? = some (.slice (some ⟨g, 0, none⟩) 128 c) ∧ Bs w (some ⟨g, 0, none⟩) 128 x.2

/-- A disk of n sectors, none of which has been written for sure; what has been written since. -/
structure Disk (base : Nat) (w : World) (p s : Nat) (lv : Value) (n : Nat) (late : List (Nat × List UInt8)) : Prop where
  pb : base ≤ p
  pt : At w p 177
  c0 : w.cell? ⟨p, 0, none⟩ = some (.slice (some ⟨s, 0, none⟩) n n)
  c1 : w.cell? ⟨p, 1, none⟩ = some lv
  c2 : w.cell? ⟨p, 2, none⟩ = some (.bool false)
  c3 : w.cell? ⟨p, 3, none⟩ = some (.int .i64 0)
  st : At w s 37
  sec : ∀ i, i < n → ∃ g, At w g 5 ∧ w.cell? ⟨s, i, none⟩ = some (.slice (some ⟨g, 0, none⟩) 128 128) ∧ Bs w (some ⟨g, 0, none⟩) 128 (List.replicate 128 0)
  row : Late base w lv late

theorem Late.below {base : Nat} {w w' : World} {lv : Value} {late : List (Nat × List UInt8)} (h : Late base w lv late) (hb : Below w.heap.size w w') : Late base w' lv late := by
  obtain ⟨cs, ho, he⟩ := h
  refine ⟨cs, own_keep ho hb, fun j x hx => ?_⟩
  obtain ⟨g, c, h1, h2, h3, h4, h5⟩ := he j x hx
  exact ⟨g, c, h1.below hb, h2, h3, h4, h5.below hb (Nat.le_refl _)⟩
theorem Disk.below {base : Nat} {w w' : World} {p s : Nat} {lv : Value} {n : Nat} {late : List (Nat × List UInt8)} (h : Disk base w p s lv n late) (hb : Below w.heap.size w w') : Disk base w' p s lv n late where
  pb := h.pb
  pt := h.pt.below hb
  c0 := by rw [hb.cell (p := ⟨p, 0, none⟩) h.pt.lt]; exact h.c0
  c1 := by rw [hb.cell (p := ⟨p, 1, none⟩) h.pt.lt]; exact h.c1
  c2 := by rw [hb.cell (p := ⟨p, 2, none⟩) h.pt.lt]; exact h.c2
  c3 := by rw [hb.cell (p := ⟨p, 3, none⟩) h.pt.lt]; exact h.c3
  st := h.st.below hb
  sec := fun i hi => by
    obtain ⟨g, h1, h2, h3⟩ := h.sec i hi
    exact ⟨g, h1.below hb, by rw [hb.cell (p := ⟨s, i, none⟩) h.st.lt]; exact h2, h3.below hb (Nat.le_refl _)⟩
  row := h.row.below hb

set_option maxRecDepth 100000 in
set_option maxHeartbeats 1000000 in
theorem len_any (p s n : Nat) (w : World) (hs : w.cell? ⟨p, 0, none⟩ = some (.slice (some ⟨s, 0, none⟩) n n)) :
    Calls Try.prog 111 #[.pointer (some ⟨p, 0, none⟩)] w fun e w' => e = .returned (.int .i64 (n : Int)) ∧ w = w' := by
  go_enter Try.func111, Try.ntmps111
  go_wp2_with fail
  go_ret
  exact ⟨rfl, rfl⟩

set_option maxRecDepth 100000 in
set_option maxHeartbeats 1000000 in
theorem spend_any (p : Nat) (w : World) (h2 : w.cell? ⟨p, 2, none⟩ = some (.bool false)) :
    Calls Try.prog 107 #[.pointer (some ⟨p, 0, none⟩)] w fun e w' => e = .returned (.bool true) ∧ w = w' := by
  go_enter Try.func107, Try.ntmps107
  go_wp2_with go_in
  go_ret
  exact ⟨rfl, rfl⟩

set_option maxRecDepth 100000 in
set_option maxHeartbeats 1000000 in
theorem blank_any (a : Option Addr) (n cap : Nat) (l : List UInt8) (w : World) (h : Bs w a n l) (hn : n ≤ 1000000000) :
    Calls Try.prog 114 #[.slice a n cap] w fun e w' => e = .returned (.bool (l.all (· == 0))) ∧ w = w' := by
  have HL := Lib.hid h.length
  have HB := Lib.hid h
  obtain ⟨r, hr⟩ : ∃ r, r = l.all (· == 0) := ⟨_, rfl⟩
  rw [← hr]
  have HR := Lib.hid hr
  clear h hr
  go_enter Try.func114, Try.ntmps114
  go_wp2_with fail
  go_loop [7] (fun u7 => ∃ k : Nat, k ≤ n ∧ u7 = .int .i64 k ∧ Hid ((l.take k).all (· == 0) = true)) (fun u7 => n - (intOf u7).toNat)
  case atStart => exact ⟨0, by omega, rfl, Lib.hid rfl⟩
  case round =>
    obtain ⟨k, hk, rfl, HK⟩ := hrel
    by_cases hlt : k < n
    · obtain ⟨b, o, c, rfl, hc, hck, _⟩ := Bs.cell HB.out k hlt
      have hb0 := byte0 c
      by_cases hc0 : c = 0
      · have hb := hb0.1 hc0
        have hnx : (l.take (k + 1)).all (· == 0) = true := by rw [List.take_add_one, hc, List.all_append, HK.out, hc0]; rfl
        have HN := Lib.hid hnx
        subst hc0
        clear hc hb0 HK hnx
        go_wp2_with fail
        exact ⟨⟨k + 1, by omega, by go_num, HN⟩, by simp [intOf]; omega⟩
      · have hb := hb0.2 hc0
        have hrf : r = false := by
          rw [HR.out, List.all_eq_false]
          exact ⟨c, List.mem_of_getElem? hc, by simpa using hc0⟩
        subst hrf
        clear hc hb0 HK hc0
        go_wp2_with fail
        go_ret
        exact ⟨rfl, rfl⟩
    · have hkn : k = n := by omega
      subst hkn
      have hrt : r = true := by
        have := HK.out
        rw [List.take_of_length_le (by rw [HL.out]; omega)] at this
        rw [HR.out, this]
      subst hrt
      go_wp2_with fail
      go_ret
      exact ⟨rfl, rfl⟩
end Go.Proofs.Ytljbehndnledpaa
