/- Plain helpers that all claims of this seat share: numbers, frames, slices of integers that are read. No condition. -/
import Derived.Test.YtljbehndnledpaaProg
import Derived.WalkKit
import Derived.WalkSpells
import Derived.WalkLawsBesides
import Derived.Laws.BitsAllLaws
import Derived.BigQuiet
import Derived.Deep.QuietTactic
import Derived.Lib.Hide
import Derived.Laws.IdiomStrings
namespace Go.Proofs.Ytljbehndnledpaa
open Go.RowKit

/-- The slice value with address a and length n reads, in w, as the values xs (one cell each). -/
def Sl (w : World) (a : Option Addr) (n : Nat) (xs : List Value) : Prop :=
  xs.length = n ∧ ∀ i x, xs[i]? = some x → ∃ b o, a = some ⟨b, o, none⟩ ∧ w.cell? ⟨b, o + i, none⟩ = some x

theorem Sl.below {B : Nat} {w w' : World} {a : Option Addr} {n : Nat} {xs : List Value} (h : Sl w a n xs) (hb : Below B w w') (hB : w.heap.size ≤ B) : Sl w' a n xs := by
  refine ⟨h.1, fun i x hx => ?_⟩
  obtain ⟨b, o, ha, hc⟩ := h.2 i x hx
  refine ⟨b, o, ha, ?_⟩
  have hlt := World.block_lt_of_cell? w _ hc
  rw [hb.cell (p := ⟨b, o + i, none⟩) (by simp at hlt ⊢; omega)]
  exact hc

/-- A slice of integers of kind k. -/
def Is (k : IntKind) (w : World) (a : Option Addr) (n : Nat) (zs : List Int) : Prop := Sl w a n (zs.map (.int k))

theorem Is.below {B : Nat} {k : IntKind} {w w' : World} {a : Option Addr} {n : Nat} {zs : List Int} (h : Is k w a n zs) (hb : Below B w w') (hB : w.heap.size ≤ B) : Is k w' a n zs :=
  Sl.below h hb hB

theorem Is.len {k : IntKind} {w : World} {a : Option Addr} {n : Nat} {zs : List Int} (h : Is k w a n zs) : zs.length = n := by
  have := h.1; simpa using this

theorem Is.at {k : IntKind} {w : World} {a : Option Addr} {n : Nat} {zs : List Int} (h : Is k w a n zs) (hn : 0 < n) :
    ∃ b o, a = some ⟨b, o, none⟩ ∧ ∀ i, i < n → w.cell? ⟨b, o + i, none⟩ = some (.int k (zs.getD i 0)) := by
  have hl := h.len
  obtain ⟨b, o, ha, _⟩ := h.2 0 _ (by rw [List.getElem?_map, List.getElem?_eq_getElem (by omega)]; rfl)
  refine ⟨b, o, ha, fun i hi => ?_⟩
  obtain ⟨b', o', ha', hc⟩ := h.2 i _ (by rw [List.getElem?_map, List.getElem?_eq_getElem (by omega)]; rfl)
  rw [ha] at ha'
  simp only [Option.some.injEq, Addr.mk.injEq, and_true] at ha'
  obtain ⟨rfl, rfl⟩ := ha'
  rw [hc, List.getD_eq_getElem?_getD, List.getElem?_eq_getElem (by omega)]
  rfl

theorem Is.mk' {k : IntKind} {w : World} {b o n : Nat} {zs : List Int} (hl : zs.length = n) (h : ∀ i, i < n → w.cell? ⟨b, o + i, none⟩ = some (.int k (zs.getD i 0))) :
    Is k w (some ⟨b, o, none⟩) n zs := by
  refine ⟨by simpa using hl, fun i x hx => ⟨b, o, rfl, ?_⟩⟩
  rw [List.getElem?_map] at hx
  have hi : i < zs.length := by
    rcases Nat.lt_or_ge i zs.length with hi | hi
    · exact hi
    · rw [List.getElem?_eq_none hi] at hx; cases hx
  rw [h i (by omega), List.getD_eq_getElem?_getD]
  rw [List.getElem?_eq_getElem hi] at hx ⊢
  simpa using hx

/-- A slice of integers that came in: nil, or a row of cap cells, of which the first len are its elements. -/
def IsRow (k : IntKind) (w : World) (a : Option Addr) (len cap : Nat) (zs : List Int) : Prop :=
  (a = none ∧ len = 0 ∧ cap = 0 ∧ zs = []) ∨
  ∃ x, a = some x ∧ len ≤ cap ∧ cap ≤ maxLen ∧ zs.length = cap ∧ (∀ i, i < zs.length → w.cell? (x.add i) = some (.int k (zs.getD i 0))) ∧ ∀ n ∈ zs, (Lit.int k n).wf = true

theorem IsRow.is {k : IntKind} {w : World} {a : Option Addr} {len cap : Nat} {zs : List Int} (h : IsRow k w a len cap zs) : Is k w a len (zs.take len) := by
  rcases h with ⟨rfl, rfl, rfl, rfl⟩ | ⟨x, rfl, hl, hm, hz, hc, hw⟩
  · exact ⟨by simp, fun i x hx => by simp at hx⟩
  · by_cases h0 : len = 0
    · subst h0; exact ⟨by simp, fun i x hx => by simp at hx⟩
    · obtain ⟨b, off, spot⟩ := x
      have hc0 := hc 0 (by omega)
      have hspot : spot = none := by simpa [Addr.add] using World.cell?_spot hc0
      subst hspot
      refine Is.mk' (by simp; omega) fun i hi => ?_
      have := hc i (by omega)
      rw [List.getD_eq_getElem?_getD, List.getElem?_take, if_pos hi, ← List.getD_eq_getElem?_getD, ← this]
      congr 1
      unfold Addr.add
      split <;> simp_all

theorem IsRow.wf {k : IntKind} {w : World} {a : Option Addr} {len cap : Nat} {zs : List Int} (h : IsRow k w a len cap zs) : ∀ n ∈ zs.take len, (Lit.int k n).wf = true := by
  rcases h with ⟨rfl, rfl, rfl, rfl⟩ | ⟨x, rfl, hl, hm, hz, hc, hw⟩
  · intro n hn; simp at hn
  · exact fun n hn => hw n (List.mem_of_mem_take hn)

theorem cells_new (w : World) (news : List Value) (e : TypeId) : ∀ j u, news[j]? = some u → (w.alloc (.cells news.toArray e)).cell? ((⟨w.heap.size, 0, none⟩ : Addr).add j) = some u := by
  intro j u hu
  have hadd : (⟨w.heap.size, 0, none⟩ : Addr).add j = ⟨w.heap.size, j, none⟩ := by unfold Addr.add; split <;> simp_all
  rw [hadd, World.cell?_alloc_mark]
  simpa using hu

theorem grown_of_alloc {w w' : World} {o : Obj} {row : Option Nat} (h : (w.alloc o).grownBy w' row) : w.grownBy w' row :=
  ⟨h.os, h.tape, h.output, Nat.le_trans (by simp) h.size, fun k hk hne => (h.block k (by simp; omega) hne).trans (heap_alloc_old w o hk)⟩

/-- Things appended to a slice of the call's own: their cells are laid in a new block ahead of it. -/
theorem app_new {P : Program} {w : World} {base : Nat} {t e : TypeId} {i : TypeInfo} {z : Value} {size bytes : Nat} (ht : P.underlying t = some (.slice e)) (hi : P.info? e = some i) (hz : i.zero = some z)
    (hsize : i.size = size) (hby : i.bytes = bytes) (hzs : z.cells.size = size) (hsz : 0 < size) {v : Value} {n : Nat} {xs : List Value} (hown : w.ownsRow base e size v n xs)
    (m : Nat) (news : List Value) (hl : news.length = m * size) (h1 : ∀ u ∈ news, u.oneCell' = true) (h63 : n + m ≤ maxLen) (hbytes : (n + m) * bytes ≤ 140737488355328) (hbase : base ≤ w.heap.size) :
    ∃ v' w', (Builtin.append_ #[t, t] t #[v, .slice (some ⟨w.heap.size, 0, none⟩) m m]).run P (w.alloc (.cells news.toArray e)) = .ok v' w' ∧ w'.ownsRow base e size v' (n + m) (xs ++ news) ∧ w.grownBy w' v.ownBlock ∧ (0 < m → v' ≠ .slice none 0 0) := by
  obtain ⟨v', w', hr, h2, h3, h4⟩ := run_append_own (P := P) (w.alloc (.cells news.toArray e)) base t t e i z size bytes ht hi hz hsize hby hzs hsz v n xs (hown.alloc _) ⟨w.heap.size, 0, none⟩ m m news hl (cells_new w news e) h1 h63 hbytes (by simp; omega)
  exact ⟨v', w', hr, h2, grown_of_alloc h3, fun hm hv => by have := (h4.1 hv).2; omega⟩

theorem Below.own {B : Nat} {w0 w w' : World} {base : Nat} {e : TypeId} {size : Nat} {v : Value} {n : Nat} {xs : List Value} (h : Below B w0 w) (hown : w.ownsRow base e size v n xs) (hg : w.grownBy w' v.ownBlock) (hB : B ≤ base) (hw : B ≤ w.heap.size) : Below B w0 w' :=
  h.grown hg hw fun k hk => by have := (hown.lt k hk).1; omega

theorem ret_int {k : IntKind} {a b : Int} (h : a = b) : Ending.returned (.int k a) = .returned (.int k b) := by rw [h]
theorem ret_bool {a b : Bool} (h : a = b) : Ending.returned (.bool a) = .returned (.bool b) := by rw [h]

/-- a & b + (a ^ b) / 2 is the mean, rounded down. -/
theorem nat_mid (a b : Nat) : (a &&& b) + (a ^^^ b) / 2 = (a + b) / 2 := by
  induction a using Nat.strongRecOn generalizing b with
  | _ a ih =>
    by_cases h : a = 0
    · subst h; simp
    · have h2 := ih (a / 2) (by omega) (b / 2)
      have e1 : (a &&& b) / 2 = a / 2 &&& b / 2 := Nat.and_div_two
      have e2 : (a ^^^ b) / 2 = a / 2 ^^^ b / 2 := Nat.xor_div_two
      have m1 : (a &&& b) % 2 = a % 2 * (b % 2) := by
        have := Nat.and_mod_two_pow (a := a) (b := b) (n := 1)
        simp only [Nat.pow_one] at this
        rw [this]
        rcases Nat.mod_two_eq_zero_or_one a with ha | ha <;> rcases Nat.mod_two_eq_zero_or_one b with hb | hb <;> simp [ha, hb]
      have m2 : (a / 2 ^^^ b / 2) % 2 = (a / 2 + b / 2) % 2 := by
        have := Nat.xor_mod_two_pow (a := a / 2) (b := b / 2) (n := 1)
        simp only [Nat.pow_one] at this
        rw [this]
        rcases Nat.mod_two_eq_zero_or_one (a / 2) with ha | ha <;> rcases Nat.mod_two_eq_zero_or_one (b / 2) with hb | hb <;> simp [ha, hb] <;> omega
      rw [e2]
      have d := Nat.div_add_mod (a &&& b) 2
      rw [e1, m1] at d
      have hx := Nat.div_add_mod (a / 2 ^^^ b / 2) 2
      rw [m2] at hx
      have hp : a % 2 * (b % 2) = if a % 2 = 1 ∧ b % 2 = 1 then 1 else 0 := by
        rcases Nat.mod_two_eq_zero_or_one a with ha | ha <;> rcases Nat.mod_two_eq_zero_or_one b with hb | hb <;> simp [ha, hb]
      rw [hp] at d
      split at d <;> omega

theorem mid_u64 (a b : Int) (h1 : 0 ≤ a) (h2 : a < 18446744073709551616) (h3 : 0 ≤ b) (h4 : b < 18446744073709551616) :
    IntKind.u64.wrap (bits BinOp.and IntKind.u64 a b + bits BinOp.xor IntKind.u64 a b / 2) = (a + b) / 2 := by
  rw [u64_and a b h1 h2 h3 h4, u64_xor a b h1 h2 h3 h4, IntKind.wrap_u64]
  have := nat_mid a.toNat b.toNat
  omega

/-- How often a number can be halved (rounded down) till it is 0. -/
def blF : Nat → Nat → Nat
  | 0, _ => 0
  | f + 1, n => if n = 0 then 0 else blF f (n / 2) + 1
def bl (n : Nat) : Nat := blF n n

theorem blF_eq : ∀ (f g n : Nat), n ≤ f → n ≤ g → blF f n = blF g n := by
  intro f
  induction f with
  | zero =>
    intro g n h _
    have : n = 0 := by omega
    subst this
    cases g <;> simp [blF]
  | succ f ih =>
    intro g n h1 h2
    by_cases h0 : n = 0
    · subst h0; cases g <;> simp [blF]
    · cases g with
      | zero => omega
      | succ g => simp only [blF, if_neg h0]; rw [ih g (n / 2) (by omega) (by omega)]

theorem bl_zero : bl 0 = 0 := rfl

theorem bl_pos (n : Nat) (h : 0 < n) : bl n = bl (n / 2) + 1 := by
  unfold bl
  cases n with
  | zero => omega
  | succ k =>
    simp only [blF, if_neg (Nat.succ_ne_zero k)]
    rw [blF_eq k ((k + 1) / 2) ((k + 1) / 2) (by omega) (by omega)]

theorem bl_mono : ∀ (b a : Nat), a ≤ b → bl a ≤ bl b := by
  intro b
  induction b using Nat.strongRecOn with
  | _ b ih =>
    intro a h
    by_cases hb : b = 0
    · have : a = 0 := by omega
      subst hb; subst this; exact Nat.le_refl _
    · by_cases ha : a = 0
      · subst ha; rw [bl_zero]; omega
      · rw [bl_pos a (by omega), bl_pos b (by omega)]
        have := ih (b / 2) (by omega) (a / 2) (by omega)
        omega

theorem bl_le (n : Nat) : bl n ≤ n := by
  induction n using Nat.strongRecOn with
  | _ n ih =>
    by_cases h : n = 0
    · subst h; rw [bl_zero]; omega
    · rw [bl_pos n (by omega)]
      have := ih (n / 2) (by omega)
      omega

end Go.Proofs.Ytljbehndnledpaa
