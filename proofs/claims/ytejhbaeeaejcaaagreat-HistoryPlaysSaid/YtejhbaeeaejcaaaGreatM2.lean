/- Nodes of a tree in memory, that never change, and the walks of node.Node's Len, Find and Kid. Conditions: those of each theorem. -/
import Derived.Test.YtejhbaeeaejcaaaGreatM1
import Derived.Maps.Range
import Derived.Maps.Own
import Derived.Maps.OwnSet
import Derived.Lib.AppendZerosOnto
import Derived.Laws.CopyRow
namespace Go.Proofs.YtejhbaeeaejcaaaGreat
open Go.RowKit

/-- The blocks of a set are as they were. -/
def Same (S : Nat → Prop) (w w' : World) : Prop := ∀ k, S k → w'.heap[k]? = w.heap[k]?
theorem Same.refl (S : Nat → Prop) (w : World) : Same S w w := fun _ _ => rfl
theorem Same.trans {S : Nat → Prop} {w w1 w2 : World} (h : Same S w w1) (h' : Same S w1 w2) : Same S w w2 := fun k hk => (h' k hk).trans (h k hk)
theorem Same.less {S S' : Nat → Prop} {w w' : World} (h : Same S w w') (hs : ∀ k, S' k → S k) : Same S' w w' := fun k hk => h k (hs k hk)
theorem Same.of_below {S : Nat → Prop} {w w' : World} {B : Nat} (hb : Below B w w') (hs : ∀ k, S k → k < B) : Same S w w' := fun k hk => hb.block k (hs k hk)
/-- A slice whose block is one of a set. -/
def SIn (S : Nat → Prop) (a : Option Addr) : Prop := ∀ b o, a = some ⟨b, o, none⟩ → S b
theorem cell_same {S : Nat → Prop} {w w' : World} (hs : Same S w w') {b : Nat} (hb : S b) (o : Nat) : w'.cell? ⟨b, o, none⟩ = w.cell? ⟨b, o, none⟩ := by
  simp only [World.cell?]
  rw [hs b hb]
theorem KRow.same {S : Nat → Prop} {w w' : World} {a : Option Addr} {n : Nat} {ks : List Nat} (h : KRow w a n ks) (ha : SIn S a) (hs : Same S w w') : KRow w' a n ks := by
  refine ⟨h.1, fun i r hr => ?_⟩
  obtain ⟨b, o, e, h1, h2, h3⟩ := h.2 i r hr
  have hb := ha b o e
  exact ⟨b, o, e, (cell_same hs hb _).trans h1, (cell_same hs hb _).trans h2, (cell_same hs hb _).trans h3⟩
theorem Sl.same {S : Nat → Prop} {w w' : World} {a : Option Addr} {n : Nat} {xs : List Value} (h : Sl w a n xs) (ha : SIn S a) (hs : Same S w w') : Sl w' a n xs := by
  refine ⟨h.1, fun i r hr => ?_⟩
  obtain ⟨b, o, e, h1⟩ := h.2 i r hr
  exact ⟨b, o, e, (cell_same hs (ha b o e) _).trans h1⟩

def atV (n : Nat) : Value := .int .u32 (n : Int)
def ptrV (p : Nat) : Value := .pointer (some ⟨p, 0, none⟩)
/-- A node's block: whether it is a leaf, and its rows. -/
structure NodeBox (w : World) (S : Nat → Prop) (p : Nat) (leaf : Bool) (ka : Option Addr) (kn kc : Nat) (va : Option Addr) (vn vc : Nat) (ca : Option Addr) (cn cc : Nat) : Prop where
  obj : ∃ at', w.heap[p]? = some (.cells #[.bool leaf, .slice ka kn kc, .slice va vn vc, .slice ca cn cc, at'] 136 (0, 0))
  self : S p
  keys : SIn S ka
  vals : SIn S va
  kids : SIn S ca
theorem NodeBox.same {w w' : World} {S : Nat → Prop} {p : Nat} {leaf : Bool} {ka va ca : Option Addr} {kn kc vn vc cn cc : Nat} (h : NodeBox w S p leaf ka kn kc va vn vc ca cn cc) (hs : Same S w w') : NodeBox w' S p leaf ka kn kc va vn vc ca cn cc := by
  obtain ⟨at', e⟩ := h.obj
  exact ⟨⟨at', by rw [hs p h.self]; exact e⟩, h.self, h.keys, h.vals, h.kids⟩
theorem NodeBox.more {w : World} {S S' : Nat → Prop} {p : Nat} {leaf : Bool} {ka va ca : Option Addr} {kn kc vn vc cn cc : Nat} (h : NodeBox w S p leaf ka kn kc va vn vc ca cn cc) (hs : ∀ k, S k → S' k) : NodeBox w S' p leaf ka kn kc va vn vc ca cn cc :=
  ⟨h.obj, hs _ h.self, fun b o e => hs _ (h.keys b o e), fun b o e => hs _ (h.vals b o e), fun b o e => hs _ (h.kids b o e)⟩
theorem NodeBox.reads {w : World} {S : Nat → Prop} {p : Nat} {leaf : Bool} {ka va ca : Option Addr} {kn kc vn vc cn cc : Nat} (h : NodeBox w S p leaf ka kn kc va vn vc ca cn cc) :
    w.cell? ⟨p, 0, none⟩ = some (.bool leaf) ∧ w.cell? ⟨p, 1, none⟩ = some (.slice ka kn kc) ∧ w.cell? ⟨p, 2, none⟩ = some (.slice va vn vc) ∧ w.cell? ⟨p, 3, none⟩ = some (.slice ca cn cc) ∧ p < w.heap.size := by
  obtain ⟨at', e⟩ := h.obj
  refine ⟨?_, ?_, ?_, ?_, (Array.getElem?_eq_some_iff.1 e).1⟩ <;> simp [World.cell?, e]

/-- A tree of a depth in memory, its blocks all of a set. -/
def NodeW (w : World) (S : Nat → Prop) : {d : Nat} → Nat → Tr d → Prop
  | 0, p, t => ∃ ka kc va vc, NodeBox w S p true ka (rowT t).length kc va (rowT t).length vc none 0 0 ∧ KRow w ka (rowT t).length (keysT t) ∧ Sl w va (rowT t).length ((rowT t).map fun e => atV e.2)
  | d + 1, p, t => ∃ ka kc ca cc, ∃ ps : List Nat, NodeBox w S p false ka (kidsT t).length kc none 0 0 ca (kidsT t).length cc ∧ KRow w ka (kidsT t).length (keysT t) ∧ Sl w ca (kidsT t).length (ps.map ptrV) ∧ ps.length = (kidsT t).length ∧
      ∀ (i q : Nat) (k : Tr d), ps[i]? = some q → (kidsT t)[i]? = some k → NodeW w S q k
theorem NodeW.same {S : Nat → Prop} {w w' : World} (hs : Same S w w') : ∀ {d : Nat} {p : Nat} {t : Tr d}, NodeW w S p t → NodeW w' S p t
  | 0, p, t, h => by
    obtain ⟨ka, kc, va, vc, h1, h2, h3⟩ := h
    exact ⟨ka, kc, va, vc, h1.same hs, h2.same h1.keys hs, h3.same h1.vals hs⟩
  | d + 1, p, t, h => by
    obtain ⟨ka, kc, ca, cc, ps, h1, h2, h3, h4, h5⟩ := h
    exact ⟨ka, kc, ca, cc, ps, h1.same hs, h2.same h1.keys hs, h3.same h1.kids hs, h4, fun i q k hq hk => NodeW.same hs (h5 i q k hq hk)⟩
theorem NodeW.more {S S' : Nat → Prop} {w : World} (hs : ∀ k, S k → S' k) : ∀ {d : Nat} {p : Nat} {t : Tr d}, NodeW w S p t → NodeW w S' p t
  | 0, p, t, h => by
    obtain ⟨ka, kc, va, vc, h1, h2, h3⟩ := h
    exact ⟨ka, kc, va, vc, h1.more hs, h2, h3⟩
  | d + 1, p, t, h => by
    obtain ⟨ka, kc, ca, cc, ps, h1, h2, h3, h4, h5⟩ := h
    exact ⟨ka, kc, ca, cc, ps, h1.more hs, h2, h3, h4, fun i q k hq hk => NodeW.more hs (h5 i q k hq hk)⟩
/-- What every node has: its keys. -/
theorem NodeW.box {S : Nat → Prop} {w : World} : {d : Nat} → {p : Nat} → {t : Tr d} → NodeW w S p t → ∃ ka kc va vn vc ca cn cc, NodeBox w S p (d == 0) ka (lenT t) kc va vn vc ca cn cc ∧ KRow w ka (lenT t) (keysT t)
  | 0, p, t, h => by
    obtain ⟨ka, kc, va, vc, h1, h2, h3⟩ := h
    exact ⟨ka, kc, va, _, vc, none, 0, 0, h1, h2⟩
  | d + 1, p, t, h => by
    obtain ⟨ka, kc, ca, cc, ps, h1, h2, h3, h4, h5⟩ := h
    exact ⟨ka, kc, none, 0, 0, ca, _, cc, h1, h2⟩

theorem KRow.low {w : World} {a : Option Addr} {n : Nat} {ks : List Nat} (h : KRow w a n ks) (h0 : 0 < n) : ∀ b o, a = some ⟨b, o, none⟩ → b < w.heap.size := fun b o e => by
  obtain ⟨b', o', k, e', -, h1, -⟩ := h.list 0 h0
  rw [e'] at e
  cases e
  exact World.block_lt_of_cell? _ _ h1
theorem le_count {ks : List Nat} (h : ks.Pairwise (· < ·)) (k : Nat) : (ks.filter fun x => decide (x ≤ k)).length = lbN ks k + if k ∈ ks then 1 else 0 := by
  unfold lbN
  induction ks with
  | nil => simp
  | cons x ks ih =>
    rw [List.pairwise_cons] at h
    have ih := ih h.2
    by_cases h1 : x < k
    · rw [List.filter_cons_of_pos (by simp; omega), List.filter_cons_of_pos (by simpa using h1), List.length_cons, List.length_cons, ih]
      have hm : (k ∈ x :: ks) ↔ k ∈ ks := by
        rw [List.mem_cons]
        constructor
        · rintro (e | e)
          · omega
          · exact e
        · exact .inr
      simp only [hm]
      omega
    · have hnil : ∀ (q : Nat → Bool), (∀ y ∈ ks, q y = false) → ks.filter q = [] := fun q hq => List.filter_eq_nil_iff.2 (fun y hy => by rw [hq y hy]; simp)
      by_cases h2 : x = k
      · subst h2
        rw [List.filter_cons_of_pos (by simp), List.filter_cons_of_neg (by simp)]
        rw [hnil _ (fun y hy => by have := h.1 y hy; simp; omega), hnil _ (fun y hy => by have := h.1 y hy; simp; omega)]
        simp
      · rw [List.filter_cons_of_neg (by simp; omega), List.filter_cons_of_neg (by simpa using h1)]
        rw [hnil _ (fun y hy => by have := h.1 y hy; simp; omega), hnil _ (fun y hy => by have := h.1 y hy; simp; omega)]
        have : ¬ k ∈ x :: ks := by
          rw [List.mem_cons]
          rintro (e | e)
          · omega
          · have := h.1 k e; omega
        rw [if_neg this]
        rfl
/-- What Find comes to. -/
def findZ (ks : List Nat) (k : Nat) : Int := ((ks.filter fun x => decide (x ≤ k)).length : Int) - 1

set_option maxRecDepth 100000 in
set_option maxHeartbeats 4000000 in
theorem find_any {S : Nat → Prop} {w : World} {d p : Nat} {t : Tr d} (h : NodeW w S p t) (hn : lenT t ≤ 1000000) (hs : (keysT t).Pairwise (· < ·)) (k : Nat) :
    Calls Tryz.prog 54 #[ptrV p, keyV k] w fun e w' => e = .returned (.int .i64 (findZ (keysT t) k)) ∧ Below w.heap.size w w' := by
  obtain ⟨ka, kc, va, vn, vc, ca, cn, cc, hbx, hkr⟩ := h.box
  obtain ⟨-, c1, -, -, hp⟩ := hbx.reads
  have hb0 : Below w.heap.size w (w.alloc (.cells #[.int .u16 (kVol k : Int), .int .u32 (kBlk k : Int), .int .u64 (kSeq k : Int)] 27)) := (Below.refl _ _).alloc (Nat.le_refl _) _
  have x0 : (w.alloc (.cells #[.int .u16 (kVol k : Int), .int .u32 (kBlk k : Int), .int .u64 (kSeq k : Int)] 27)).cell? ⟨w.heap.size, 0, none⟩ = some (.int .u16 (kVol k : Int)) := by simp
  have x1 : (w.alloc (.cells #[.int .u16 (kVol k : Int), .int .u32 (kBlk k : Int), .int .u64 (kSeq k : Int)] 27)).cell? ⟨w.heap.size, 1, none⟩ = some (.int .u32 (kBlk k : Int)) := by simp
  have x2 : (w.alloc (.cells #[.int .u16 (kVol k : Int), .int .u32 (kBlk k : Int), .int .u64 (kSeq k : Int)] 27)).cell? ⟨w.heap.size, 2, none⟩ = some (.int .u64 (kSeq k : Int)) := by simp
  have d1 := cell_past c1 (.cells #[.int .u16 (kVol k : Int), .int .u32 (kBlk k : Int), .int .u64 (kSeq k : Int)] 27)
  have hcnt := le_count hs k
  have hlt : lbN (keysT t) k ≤ lenT t := by
    unfold lbN
    have := List.length_filter_le (fun x => decide (x < k)) (keysT t)
    rw [keys_len] at this
    exact this
  have HBS := Lib.hid (bsearch_any ka (lenT t) kc (keysT t) k ((w.alloc (.cells #[.int .u16 (kVol k : Int), .int .u32 (kBlk k : Int), .int .u64 (kSeq k : Int)] 27)).drew) (show KRow (w.alloc _).drew _ _ _ from (hkr.below hb0 (Nat.le_refl _)).below (Below.drewB (Below.refl _ _)) (Nat.le_refl _)) hn hs)
  have hfz : findZ (keysT t) k = if k ∈ keysT t then (lbN (keysT t) k : Int) else (lbN (keysT t) k : Int) - 1 := by
    unfold findZ
    rw [hcnt]
    split <;> simp
  have HFZ := Lib.hid hfz
  unfold keyV at HBS ⊢
  unfold ptrV
  clear hfz hcnt hkr hbx h hs
  go_enter Tryz.func54, Tryz.ntmps54
  go_wp2_with fail
  generalize hw0 : (w.alloc (.cells #[.int .u16 (kVol k : Int), .int .u32 (kBlk k : Int), .int .u64 (kSeq k : Int)] 27)) = w0 at *
  generalize hB : w.heap.size = B at *
  have hS : w0.drew.cell? ⟨B, 0, none⟩ = some (.int .u16 (kVol k : Int)) ∧ w0.drew.cell? ⟨B, 1, none⟩ = some (.int .u32 (kBlk k : Int)) ∧ w0.drew.cell? ⟨B, 2, none⟩ = some (.int .u64 (kSeq k : Int)) ∧ w0.drew.cell? ⟨p, 1, none⟩ = some (.slice ka (lenT t) kc) := ⟨x0, x1, x2, d1⟩
  have hS5 : ∀ w5, Below w0.drew.heap.size w0.drew w5 → w5.cell? ⟨B, 0, none⟩ = some (.int .u16 (kVol k : Int)) ∧ w5.cell? ⟨B, 1, none⟩ = some (.int .u32 (kBlk k : Int)) ∧ w5.cell? ⟨B, 2, none⟩ = some (.int .u64 (kSeq k : Int)) ∧ w5.cell? ⟨p, 1, none⟩ = some (.slice ka (lenT t) kc) := fun w5 h5 =>
    ⟨(h5.cell (World.block_lt_of_cell? _ _ x0)).trans x0, (h5.cell (World.block_lt_of_cell? _ _ x1)).trans x1, (h5.cell (World.block_lt_of_cell? _ _ x2)).trans x2, (h5.cell (World.block_lt_of_cell? _ _ d1)).trans d1⟩
  have HS5 := Lib.hid hS5
  have HBJ : Hid (∀ w5, Below w0.drew.heap.size w0.drew w5 → Below B w w5) := Lib.hid fun w5 h5 => hb0.trans (Below.trans (Below.drewB (Below.refl B w0)) (Below.mono h5 (by show B ≤ w0.heap.size; have := hb0.size; omega)))
  clear x0 x1 x2 d1 c1 hS5 hw0
  by_cases hm : k ∈ keysT t
  · rw [decide_eq_true hm] at HBS
    have HM := Lib.hid hm
    clear hm
    generalize hlb : lbN (keysT t) k = lb at *
    go_region_held (fun W' => W'.cell? ⟨B, 0, none⟩ = some (.int .u16 (kVol k : Int)) ∧ W'.cell? ⟨B, 1, none⟩ = some (.int .u32 (kBlk k : Int)) ∧ W'.cell? ⟨B, 2, none⟩ = some (.int .u64 (kSeq k : Int)) ∧ W'.cell? ⟨p, 1, none⟩ = some (.slice ka (lenT t) kc)) (first | exact hS6 | exact hS)
      (first | (go_at_call 78; refine HBS.out.mono ?_; rintro e w5 ⟨rfl, hb5⟩; have hS6 := HS5.out w5 hb5))
    all_goals
      go_wp2_with fail
      go_ret
      exact ⟨by rw [HFZ.out, if_pos HM.out]; rfl, by rw [hB]; exact HBJ.out _ hb5⟩
  · rw [decide_eq_false hm] at HBS
    have HM := Lib.hid hm
    clear hm
    generalize hlb : lbN (keysT t) k = lb at *
    have hw1 : IntKind.i64.wrap ((lb : Int) - 1) = (lb : Int) - 1 := IntWalk.i64_in _ (by omega)
    go_region_held (fun W' => W'.cell? ⟨B, 0, none⟩ = some (.int .u16 (kVol k : Int)) ∧ W'.cell? ⟨B, 1, none⟩ = some (.int .u32 (kBlk k : Int)) ∧ W'.cell? ⟨B, 2, none⟩ = some (.int .u64 (kSeq k : Int)) ∧ W'.cell? ⟨p, 1, none⟩ = some (.slice ka (lenT t) kc)) (first | exact hS6 | exact hS)
      (first | (go_at_call 78; refine HBS.out.mono ?_; rintro e w5 ⟨rfl, hb5⟩; have hS6 := HS5.out w5 hb5))
    all_goals
      go_wp2_with fail
      go_ret
      exact ⟨by rw [HFZ.out, if_neg HM.out]; rfl, by rw [hB]; exact HBJ.out _ hb5⟩

theorem kid_max (ks : List Nat) (k : Nat) : max (findZ ks k) 0 = (kidAt ks k : Int) := by
  unfold findZ kidAt
  omega

set_option maxRecDepth 100000 in
set_option maxHeartbeats 4000000 in
theorem kid_any {S : Nat → Prop} {w : World} {d p : Nat} {t : Tr d} (h : NodeW w S p t) (hS : ∀ j, S j → j < w.heap.size) (hn : lenT t ≤ 1000000) (hs : (keysT t).Pairwise (· < ·)) (k : Nat) :
    Calls Tryz.prog 76 #[ptrV p, keyV k] w fun e w' => e = .returned (.int .i64 (kidAt (keysT t) k)) ∧ Below w.heap.size w w' := by
  have hb0 : Below w.heap.size w (w.alloc (.cells #[.int .u16 (kVol k : Int), .int .u32 (kBlk k : Int), .int .u64 (kSeq k : Int)] 27)) := (Below.refl _ _).alloc (Nat.le_refl _) _
  have x0 : (w.alloc (.cells #[.int .u16 (kVol k : Int), .int .u32 (kBlk k : Int), .int .u64 (kSeq k : Int)] 27)).cell? ⟨w.heap.size, 0, none⟩ = some (.int .u16 (kVol k : Int)) := by simp
  have x1 : (w.alloc (.cells #[.int .u16 (kVol k : Int), .int .u32 (kBlk k : Int), .int .u64 (kSeq k : Int)] 27)).cell? ⟨w.heap.size, 1, none⟩ = some (.int .u32 (kBlk k : Int)) := by simp
  have x2 : (w.alloc (.cells #[.int .u16 (kVol k : Int), .int .u32 (kBlk k : Int), .int .u64 (kSeq k : Int)] 27)).cell? ⟨w.heap.size, 2, none⟩ = some (.int .u64 (kSeq k : Int)) := by simp
  have hh : NodeW (w.alloc (.cells #[.int .u16 (kVol k : Int), .int .u32 (kBlk k : Int), .int .u64 (kSeq k : Int)] 27)) S p t := h.same (Same.of_below hb0 hS)
  have HF := Lib.hid (find_any hh hn hs k)
  have hmx := kid_max (keysT t) k
  unfold keyV at HF ⊢
  unfold ptrV at HF ⊢
  generalize findZ (keysT t) k = z at *
  generalize hkk : (kidAt (keysT t) k : Int) = kk at *
  clear h hh hkk
  go_enter Tryz.func76, Tryz.ntmps76
  go_wp2_with fail
  refine HF.out.mono ?_
  rintro e w5 ⟨rfl, hb5⟩
  go_wp2_with fail
  all_goals
    go_ret
    refine ⟨?_, hb0.trans (hb5.mono hb0.size)⟩
    first
      | (have e : kk = 0 := by omega
         rw [e]; rfl)
      | (have e : kk = z := by omega
         rw [e]; rfl)
end Go.Proofs.YtejhbaeeaejcaaaGreat
/- Rows of values of k cells each, by an encoding: a slice that reads (RowE), a slice of the call's own (OwnE), an append to it. Conditions: those of each theorem. -/
namespace Go.Proofs.YtejhbaeeaejcaaaGreat
open Go.RowKit

theorem wpList_append_run {P : Program} {w : World} {ops : Array Oper} {rest : List Oper} {o : Oper} {a : Act} {Q : Exit → Act → World → Prop} (hgd : o.guard = none) (s x : Operand) (t : TypeId)
    (ho : o.op = .call { callee := .builtin .append, args := #[s, x], argTypes := #[t, t] }) {v' : Value} {w' : World}
    (hrun : (Builtin.append_ #[t, t] o.type #[a.eval s, a.eval x]).run P w = .ok v' w') (h : wpList P ops Q rest (a.put o.dst v') w') : wpList P ops Q (o :: rest) a w :=
  wpList_plain hgd fun _ hK => by
    unfold Oper.wp execOp
    simp only [ho, resolve, invoke, builtin, Sem.run_bind, Sem.run_pure, Result.andThen_ok, List.map_toArray, List.map_cons, List.map_nil, hrun]
    exact hK _ _ h
theorem add_pl (b o n : Nat) : (⟨b, o, none⟩ : Addr).add n = ⟨b, o + n, none⟩ := by unfold Addr.add; split <;> simp_all

section
variable {α : Type} (enc : α → List Value) (k : Nat)
def cellsE (l : List α) : List Value := l.flatMap enc
theorem cellsE_cons (p : α) (l : List α) : cellsE enc (p :: l) = enc p ++ cellsE enc l := rfl
theorem cellsE_app (a b : List α) : cellsE enc (a ++ b) = cellsE enc a ++ cellsE enc b := by simp [cellsE]
theorem cellsE_len (hk : ∀ x, (enc x).length = k) (l : List α) : (cellsE enc l).length = l.length * k := by
  induction l with
  | nil => simp [cellsE]
  | cons r l ih => rw [cellsE_cons, List.length_append, ih, hk, List.length_cons, Nat.add_mul, Nat.one_mul, Nat.add_comm]
theorem cellsE_at (hk : ∀ x, (enc x).length = k) (l : List α) (i j : Nat) (r : α) (h : l[i]? = some r) (hj : j < k) : (cellsE enc l)[i * k + j]? = (enc r)[j]? := by
  induction l generalizing i with
  | nil => simp at h
  | cons x l ih =>
    rw [cellsE_cons]
    cases i with
    | zero =>
      simp at h; subst h
      rw [Nat.zero_mul, Nat.zero_add, List.getElem?_append_left (by rw [hk]; exact hj)]
    | succ i =>
      simp only [List.getElem?_cons_succ] at h
      rw [List.getElem?_append_right (by rw [hk, Nat.add_mul]; omega), hk, ← ih i h]
      congr 1
      rw [Nat.add_mul]
      omega
/-- A slice that reads. -/
def RowE (w : World) (a : Option Addr) (n : Nat) (l : List α) : Prop :=
  l.length = n ∧ ∀ i r, l[i]? = some r → ∃ b o, a = some ⟨b, o, none⟩ ∧ ∀ j x, (enc r)[j]? = some x → w.cell? ⟨b, o + i * k + j, none⟩ = some x
theorem RowE.nil (w : World) (a : Option Addr) : RowE enc k w a 0 [] := ⟨rfl, fun i r h => by simp at h⟩
/-- A slice of the call's own. -/
def OwnE (e : TypeId) (w : World) (B : Nat) (v : Value) (l : List α) : Prop := w.ownsRow B e k v l.length (cellsE enc l)
end
section
variable {α : Type} {enc : α → List Value} {k : Nat}
theorem RowE.same {S : Nat → Prop} {w w' : World} {a : Option Addr} {n : Nat} {l : List α} (h : RowE enc k w a n l) (ha : SIn S a) (hs : Same S w w') : RowE enc k w' a n l := by
  refine ⟨h.1, fun i r hr => ?_⟩
  obtain ⟨b, o, e, h1⟩ := h.2 i r hr
  exact ⟨b, o, e, fun j x hx => (cell_same hs (ha b o e) _).trans (h1 j x hx)⟩
theorem RowE.take {w : World} {a : Option Addr} {n : Nat} {l : List α} (h : RowE enc k w a n l) (m : Nat) (hm : m ≤ n) : RowE enc k w a m (l.take m) :=
  ⟨by rw [List.length_take, h.1]; omega, fun i r hr => by
    have hi : i < m := by
      have := (List.getElem?_eq_some_iff.1 hr).1
      rw [List.length_take] at this
      omega
    rw [List.getElem?_take_of_lt hi] at hr
    exact h.2 i r hr⟩
theorem RowE.drop {w : World} {b o n : Nat} {l : List α} (h : RowE enc k w (some ⟨b, o, none⟩) n l) (m : Nat) : RowE enc k w (some ⟨b, o + m * k, none⟩) (n - m) (l.drop m) := by
  refine ⟨by rw [List.length_drop, h.1], fun i r hr => ?_⟩
  rw [List.getElem?_drop] at hr
  obtain ⟨b', o', he, h1⟩ := h.2 (m + i) r hr
  simp only [Option.some.injEq, Addr.mk.injEq, and_true] at he
  obtain ⟨rfl, rfl⟩ := he
  refine ⟨b, o + m * k, rfl, fun j x hx => ?_⟩
  rw [show o + m * k + i * k + j = o + (m + i) * k + j by rw [Nat.add_mul]; omega]
  exact h1 j x hx
theorem OwnE.row (hk : ∀ x, (enc x).length = k) {e : TypeId} {w : World} {B : Nat} {v : Value} {l : List α} (h : OwnE enc k e w B v l) : ∃ a cap, v = .slice a l.length cap ∧ RowE enc k w a l.length l ∧ l.length ≤ cap ∧ ∀ b o, a = some ⟨b, o, none⟩ → B ≤ b ∧ o = 0 := by
  rcases h.2 with ⟨rfl, h0⟩ | ⟨g, cap, cur, rfl, hbg, hg, hnc, hcm, hcs, htake⟩
  · have : l = [] := List.eq_nil_of_length_eq_zero h0
    subst this
    exact ⟨none, 0, rfl, RowE.nil _ _ _ _, Nat.le_refl _, fun b o e => by cases e⟩
  · refine ⟨some ⟨g, 0, none⟩, cap, rfl, ⟨rfl, fun i r hr => ⟨g, 0, rfl, fun j x hx => ?_⟩⟩, hnc, fun b o e => by cases e; exact ⟨hbg, rfl⟩⟩
    have hj : j < k := by rw [← hk r]; exact (List.getElem?_eq_some_iff.1 hx).1
    have h1 := cellsE_at enc k hk l i j r hr hj
    rw [hx] at h1
    have e1 := h.cells (g := g) rfl _ _ h1
    rw [← e1, add_pl, Nat.add_assoc]
/-- Appended out of a slice that reads. -/
theorem OwnE.app (hk : ∀ x, (enc x).length = k) (hk0 : 0 < k) (hone : ∀ x, ∀ u ∈ enc x, u.oneCell' = true) {P : Program} {t e : TypeId} {i0 : TypeInfo} {z : Value} {bytes : Nat} (ht : P.underlying t = some (.slice e)) (hi : P.info? e = some i0) (hz0 : i0.zero = some z) (hz1 : i0.size = k) (hz2 : i0.bytes = bytes) (hzc : z.cells.size = k)
    {w : World} {B : Nat} {v : Value} {l : List α} (h : OwnE enc k e w B v l) {b o m : Nat} (c : Nat) {l2 : List α} (hs : RowE enc k w (some ⟨b, o, none⟩) m l2) (hl : l.length + m ≤ 1000000000) (hby : (l.length + m) * bytes ≤ 140737488355328) (hB : B ≤ w.heap.size) :
    ∃ v' w', (Builtin.append_ #[t, t] t #[v, .slice (some ⟨b, o, none⟩) m c]).run P w = .ok v' w' ∧ OwnE enc k e w' B v' (l ++ l2) ∧ w.grownBy w' v.ownBlock := by
  obtain ⟨v', w', hr, hown, hg, _⟩ := run_append_own (P := P) w B t t e i0 z k bytes ht hi hz0 hz1 hz2 hzc hk0 v l.length (cellsE enc l) h ⟨b, o, none⟩ m c (cellsE enc l2) (by rw [cellsE_len enc k hk, hs.1]) (fun j u hu => by
    have hjl : j < l2.length * k := by rw [← cellsE_len enc k hk]; exact (List.getElem?_eq_some_iff.1 hu).1
    have hq : j / k < l2.length := Nat.div_lt_of_lt_mul (by rw [Nat.mul_comm]; exact hjl)
    have hm : j % k < k := Nat.mod_lt _ hk0
    have hd : j = j / k * k + j % k := by rw [Nat.mul_comm]; exact (Nat.div_add_mod j k).symm
    obtain ⟨b', o', he, h1⟩ := hs.2 (j / k) l2[j / k] (List.getElem?_eq_getElem hq)
    simp only [Option.some.injEq, Addr.mk.injEq, and_true] at he
    obtain ⟨rfl, rfl⟩ := he
    have h2 := cellsE_at enc k hk l2 (j / k) (j % k) _ (List.getElem?_eq_getElem hq) hm
    rw [← hd, hu] at h2
    have h3 := h1 (j % k) u h2.symm
    rw [add_pl]
    rw [Nat.add_assoc, ← hd] at h3
    exact h3) (fun u hu => by
      obtain ⟨x, -, hx⟩ := List.mem_flatMap.1 hu
      exact hone x u hx) (by unfold maxLen; omega) hby hB
  refine ⟨v', w', hr, ?_, hg⟩
  unfold OwnE
  rw [cellsE_app, List.length_append, hs.1]
  exact hown
end
end Go.Proofs.YtejhbaeeaejcaaaGreat
/- A map of numbers of 32 bits to counts, as the list of its entries in the order in which they were laid. Conditions: those of each theorem. -/
namespace Go.Proofs.YtejhbaeeaejcaaaGreat
open Go.RowKit Go.Maps Go.ChangeMaps

abbrev Uc := Nat × Nat
def UIn (p : Uc) : Prop := p.1 < 4294967296 ∧ p.2 ≤ 1000000000
def uV (x : Nat) : Value := .int .u32 (x : Int)
theorem uV_inj {s u : Nat} (h : uV s = uV u) : s = u := by
  unfold uV at h
  injection h with _ h
  omega
theorem lawU : Keyed Tryz.prog 24 := int_keyed Tryz.underlying24
theorem wfU {x : Nat} (h : x < 4294967296) : (Lit.int .u32 (x : Int)).wf = true := by simp [Lit.wf, IntKind.min, IntKind.max, IntKind.signed, IntKind.bits]; omega
theorem keyOf_u {x : Nat} (h : x < 4294967296) : keyOf Tryz.prog 24 (uV x) = some (.int .u32 (x : Int)) := keyOf_int_mk Tryz.underlying24 (wfU h)

/-- The count of a number; that set; that gone. -/
def cntU : List Uc → Nat → Nat
  | [], _ => 0
  | p :: L, s => if p.1 = s then p.2 else cntU L s
def setU : List Uc → Nat → Nat → List Uc
  | [], s, v => [(s, v)]
  | p :: L, s, v => if p.1 = s then (s, v) :: L else p :: setU L s v
def delU : List Uc → Nat → List Uc
  | [], _ => []
  | p :: L, s => if p.1 = s then L else p :: delU L s
theorem cntU_none : ∀ {L : List Uc} {s : Nat}, (∀ p ∈ L, p.1 ≠ s) → cntU L s = 0
  | [], _, _ => rfl
  | p :: L, s, h => by
    unfold cntU
    rw [if_neg (h p (by simp)), cntU_none (fun q hq => h q (by simp [hq]))]
theorem setU_none : ∀ {L : List Uc} {s : Nat} (v : Nat), (∀ p ∈ L, p.1 ≠ s) → setU L s v = L ++ [(s, v)]
  | [], _, _, _ => rfl
  | p :: L, s, v, h => by
    unfold setU
    rw [if_neg (h p (by simp)), setU_none v (fun q hq => h q (by simp [hq]))]
    rfl
theorem delU_none : ∀ {L : List Uc} {s : Nat}, (∀ p ∈ L, p.1 ≠ s) → delU L s = L
  | [], _, _ => rfl
  | p :: L, s, h => by
    unfold delU
    rw [if_neg (h p (by simp)), delU_none (fun q hq => h q (by simp [hq]))]
theorem cntU_at : ∀ {L : List Uc} {j : Nat} {p : Uc}, (L.map (·.1)).Nodup → L[j]? = some p → cntU L p.1 = p.2
  | [], _, _, _, h => by simp at h
  | q :: L, 0, p, _, h => by
    simp only [List.getElem?_cons_zero, Option.some.injEq] at h
    subst h
    simp [cntU]
  | q :: L, j + 1, p, hn, h => by
    simp only [List.getElem?_cons_succ] at h
    simp only [List.map_cons, List.nodup_cons] at hn
    have hne : q.1 ≠ p.1 := fun e => hn.1 (List.mem_map.2 ⟨p, List.mem_of_getElem? h, e.symm⟩)
    unfold cntU
    rw [if_neg hne, cntU_at hn.2 h]
theorem setU_at : ∀ {L : List Uc} {j : Nat} {p : Uc} (v : Nat), (L.map (·.1)).Nodup → L[j]? = some p → setU L p.1 v = L.set j (p.1, v)
  | [], _, _, _, _, h => by simp at h
  | q :: L, 0, p, v, _, h => by
    simp only [List.getElem?_cons_zero, Option.some.injEq] at h
    subst h
    simp [setU]
  | q :: L, j + 1, p, v, hn, h => by
    simp only [List.getElem?_cons_succ] at h
    simp only [List.map_cons, List.nodup_cons] at hn
    have hne : q.1 ≠ p.1 := fun e => hn.1 (List.mem_map.2 ⟨p, List.mem_of_getElem? h, e.symm⟩)
    unfold setU
    rw [if_neg hne, setU_at v hn.2 h]
    rfl
theorem delU_at : ∀ {L : List Uc} {j : Nat} {p : Uc}, (L.map (·.1)).Nodup → L[j]? = some p → delU L p.1 = L.eraseIdx j
  | [], _, _, _, h => by simp at h
  | q :: L, 0, p, _, h => by
    simp only [List.getElem?_cons_zero, Option.some.injEq] at h
    subst h
    simp [delU]
  | q :: L, j + 1, p, hn, h => by
    simp only [List.getElem?_cons_succ] at h
    simp only [List.map_cons, List.nodup_cons] at hn
    have hne : q.1 ≠ p.1 := fun e => hn.1 (List.mem_map.2 ⟨p, List.mem_of_getElem? h, e.symm⟩)
    unfold delU
    rw [if_neg hne, delU_at hn.2 h]
    rfl

def kvE (e : MapEntry) : Value × Value := (e.key, e.val)
def kvU (p : Uc) : Value × Value := (uV p.1, .int .i64 (p.2 : Int))
/-- Entries that read as a list of numbers and counts, in its order. -/
structure ReadsU (es : List MapEntry) (L : List Uc) : Prop where
  eq : es.map kvE = L.map kvU
  ok : ∀ p ∈ L, UIn p
theorem ReadsU.at {es : List MapEntry} {L : List Uc} (h : ReadsU es L) {j : Nat} {e : MapEntry} (he : es[j]? = some e) : ∃ p, L[j]? = some p ∧ e.key = uV p.1 ∧ e.val = .int .i64 (p.2 : Int) := by
  have h1 := congrArg (fun l => l[j]?) h.eq
  simp only [List.getElem?_map, he, Option.map_some] at h1
  cases hp : L[j]? with
  | none => rw [hp] at h1; cases h1
  | some p =>
    rw [hp] at h1
    simp only [Option.map_some, Option.some.injEq, kvE, kvU, Prod.mk.injEq] at h1
    exact ⟨p, rfl, h1.1, h1.2⟩
theorem ReadsU.mem {es : List MapEntry} {L : List Uc} (h : ReadsU es L) {e : MapEntry} (he : e ∈ es) : ∃ p ∈ L, e.key = uV p.1 ∧ e.val = .int .i64 (p.2 : Int) := by
  obtain ⟨j, hj⟩ := List.getElem?_of_mem he
  obtain ⟨p, hp, h1, h2⟩ := h.at hj
  exact ⟨p, List.mem_of_getElem? hp, h1, h2⟩
theorem ReadsU.mem' {es : List MapEntry} {L : List Uc} (h : ReadsU es L) {p : Uc} (hp : p ∈ L) : ∃ e ∈ es, e.key = uV p.1 ∧ e.val = .int .i64 (p.2 : Int) := by
  have : kvU p ∈ es.map kvE := by rw [h.eq]; exact List.mem_map.2 ⟨p, hp, rfl⟩
  obtain ⟨e, he, h1⟩ := List.mem_map.1 this
  simp only [kvE, kvU, Prod.mk.injEq] at h1
  exact ⟨e, he, h1.1, h1.2⟩
/-- Block b is a map whose entries are those of the list. -/
def UMap (w : World) (b : Nat) (L : List Uc) : Prop := ∃ es clock, w.heap[b]? = some (.map es clock) ∧ MapKept.Stamped es clock ∧ ReadsU es.toList L
theorem stamped_nodup {es : Array MapEntry} {clock : Nat} {L : List Uc} (h : MapKept.Stamped es clock) (hr : ReadsU es.toList L) : (L.map (·.1)).Nodup := by
  obtain ⟨-, -, h3⟩ := h
  have e1 : es.toList.map (·.key) = (L.map (·.1)).map uV := by
    have := congrArg (List.map Prod.fst) hr.eq
    simpa [List.map_map, Function.comp_def, kvE, kvU] using this
  rw [e1] at h3
  exact List.Pairwise.of_map uV (fun a c h e => h (congrArg uV e)) h3
theorem UMap.nodup {w : World} {b : Nat} {L : List Uc} (h : UMap w b L) : (L.map (·.1)).Nodup := by
  obtain ⟨es, clock, -, h1, h2⟩ := h
  exact stamped_nodup h1 h2
theorem UMap.ok {w : World} {b : Nat} {L : List Uc} (h : UMap w b L) : ∀ p ∈ L, UIn p := by
  obtain ⟨es, clock, -, h1, h2⟩ := h
  exact h2.ok
theorem UMap.lt {w : World} {b : Nat} {L : List Uc} (h : UMap w b L) : b < w.heap.size := by
  obtain ⟨es, clock, h1, -⟩ := h
  exact (Array.getElem?_eq_some_iff.1 h1).1
theorem UMap.heap {w w' : World} {b : Nat} {L : List Uc} (h : UMap w b L) (hb : w'.heap[b]? = w.heap[b]?) : UMap w' b L := by
  obtain ⟨es, clock, h1, h2⟩ := h
  exact ⟨es, clock, hb.trans h1, h2⟩
theorem UMap.made (w : World) : UMap (w.alloc (.map #[] 0)) w.heap.size [] := ⟨#[], 0, heap_alloc_new w _, MapKept.stamped_empty 0, rfl, by simp⟩
theorem readsU_keys {es : List MapEntry} {L : List Uc} (h : ReadsU es L) : ∀ e ∈ es, ∃ l, keyOf Tryz.prog 24 e.key = some l := fun e he => by
  obtain ⟨p, hp, h1, -⟩ := h.mem he
  exact ⟨_, by rw [h1]; exact keyOf_u (h.ok p hp).1⟩
theorem readsU_absent {es : List MapEntry} {L : List Uc} (h : ReadsU es L) {s : Nat} (h2 : ∀ x ∈ es, x.key ≠ uV s) : ∀ p ∈ L, p.1 ≠ s := fun p hp e => by
  obtain ⟨x, hx, h1, -⟩ := h.mem' hp
  exact h2 x hx (by rw [h1, e])
/-- 'm[s]'. -/
theorem UMap.look {w : World} {b : Nat} {L : List Uc} (h : UMap w b L) {s : Nat} (hs : s < 4294967296) :
    (Instr.lookup 81 (.map (some b)) (.int .u32 (s : Int)) false).run Tryz.prog w = .ok (.int .i64 (cntU L s : Nat)) w := by
  obtain ⟨es, clock, h0, hst, hr⟩ := h
  have hkey := keyOf_u hs
  show (Instr.lookup 81 (.map (some b)) (uV s) false).run Tryz.prog w = _
  rcases lawU.find w hkey es.toList (readsU_keys hr) with ⟨h1, h2⟩ | ⟨j, e0, h1, h2, h3⟩
  · rw [cntU_none (readsU_absent hr h2)]
    simp [Instr.lookup, run_underlying Tryz.underlying81, MapKept.run_getObj_map h0, lawU.check w _ hkey, h1, Tryz.zeroValue3 w, Result.andThen]
  · obtain ⟨p, hp, hk, hv⟩ := hr.at h2
    obtain rfl := uV_inj (hk.symm.trans h3)
    rw [cntU_at (stamped_nodup hst hr) hp]
    simp [Instr.lookup, run_underlying Tryz.underlying81, MapKept.run_getObj_map h0, lawU.check w _ hkey, h1, Result.andThen, hv]
theorem look_nilU {s : Nat} (hs : s < 4294967296) (w : World) : (Instr.lookup 81 (.map none) (.int .u32 (s : Int)) false).run Tryz.prog w = .ok (.int .i64 0) w := by
  have := Maps.look_nil (P := Tryz.prog) (w := w) false lawU Tryz.underlying81 (Tryz.zeroValue3 w) (keyOf_u hs)
  exact this
theorem turn_setBlock (w : World) (b : Nat) (o : Obj) : w.grownBy (setBlock w b o) (some b) := ⟨rfl, rfl, rfl, by simp [setBlock], fun i _ hi => by
  show (w.heap.setIfInBounds b o)[i]? = _
  rw [Array.getElem?_setIfInBounds_ne (fun e => hi (by rw [e]))]⟩
/-- 'm[s] = v'. -/
theorem UMap.put {w : World} {b : Nat} {L : List Uc} (h : UMap w b L) {s v : Nat} (hs : s < 4294967296) (hv : v ≤ 1000000000) :
    ∃ w', (Instr.mapUpdate 81 (.map (some b)) (.int .u32 (s : Int)) (.int .i64 (v : Int))).run Tryz.prog w = .ok () w' ∧ UMap w' b (setU L s v) ∧ w.grownBy w' (some b) ∧ w'.heap.size = w.heap.size := by
  obtain ⟨es, clock, h0, hst, hr⟩ := h
  have hkey := keyOf_u hs
  rcases lawU.find w hkey es.toList (readsU_keys hr) with ⟨h1, h2⟩ | ⟨j, e0, h1, h2, h3⟩
  · have ha := readsU_absent hr h2
    refine ⟨setBlock w b (.map (es.push ⟨uV s, .int .i64 (v : Int), clock⟩) (clock + 1)), ?_, ?_, turn_setBlock _ _ _, by simp [setBlock]⟩
    · show (Instr.mapUpdate 81 (.map (some b)) (uV s) (.int .i64 (v : Int))).run Tryz.prog w = _
      simp [Instr.mapUpdate, run_underlying Tryz.underlying81, MapKept.run_getObj_map h0, lawU.check w _ hkey, h1, MapKept.run_setObj_map _ h0, Result.andThen, setBlock]
    · rw [setU_none v ha]
      refine ⟨_, _, heap_setBlock_same h0 _, MapKept.stamped_push hst h2, by rw [Array.toList_push, List.map_append, hr.eq, List.map_append]; rfl, fun p hp => ?_⟩
      rcases List.mem_append.1 hp with hp | hp
      · exact hr.ok p hp
      · simp only [List.mem_singleton] at hp; rw [hp]; exact ⟨hs, hv⟩
  · obtain ⟨p, hp, hk, hv0⟩ := hr.at h2
    obtain rfl := uV_inj (hk.symm.trans h3)
    have hj : es[j]? = some e0 := by simpa using h2
    refine ⟨setBlock w b (.map (es.modify j fun e => { e with key := uV p.1, val := .int .i64 (v : Int) }) clock), ?_, ?_, turn_setBlock _ _ _, by simp [setBlock]⟩
    · show (Instr.mapUpdate 81 (.map (some b)) (uV p.1) (.int .i64 (v : Int))).run Tryz.prog w = _
      simp [Instr.mapUpdate, run_underlying Tryz.underlying81, MapKept.run_getObj_map h0, lawU.check w _ hkey, h1, hj, h3, lawU.stays w hkey, MapKept.run_setObj_map _ h0, Result.andThen, setBlock]
    · rw [setU_at _ (stamped_nodup hst hr) hp]
      refine ⟨_, _, heap_setBlock_same h0 _, MapKept.stamped_modify hst _ _ (fun _ _ => rfl) (fun e _ he => ?_), ⟨?_, fun q hq => ?_⟩⟩
      · rw [hj] at he
        have he := Option.some.inj he
        show uV p.1 = e.key
        rw [← he, h3]
      · rw [Array.toList_modify, modify_eq_set _ _ _ _ h2, List.map_set, List.map_set, hr.eq]
        rfl
      · rcases List.mem_or_eq_of_mem_set hq with hq | hq
        · exact hr.ok q hq
        · rw [hq]; exact ⟨hs, hv⟩
theorem map_erase' {α β : Type} (f : α → β) : ∀ (l : List α) (j : Nat), (l.eraseIdx j).map f = (l.map f).eraseIdx j
  | [], _ => rfl
  | _ :: _, 0 => rfl
  | x :: l, j + 1 => by simp [List.eraseIdx, map_erase' f l j]
/-- 'delete(m, s)'. -/
theorem UMap.del {w : World} {b : Nat} {L : List Uc} (h : UMap w b L) {s : Nat} (hs : s < 4294967296) (ty : TypeId) :
    ∃ w', (Builtin.delete_ #[81, 24] ty #[.map (some b), .int .u32 (s : Int)]).run Tryz.prog w = .ok (.tuple #[]) w' ∧ UMap w' b (delU L s) ∧ w.grownBy w' (some b) ∧ w'.heap.size = w.heap.size := by
  obtain ⟨es, clock, h0, hst, hr⟩ := h
  have hkey := keyOf_u hs
  rcases lawU.find w hkey es.toList (readsU_keys hr) with ⟨h1, h2⟩ | ⟨j, e0, h1, h2, h3⟩
  · have ha := readsU_absent hr h2
    refine ⟨setBlock w b (.map es clock), ?_, ?_, turn_setBlock _ _ _, by simp [setBlock]⟩
    · show (Builtin.delete_ #[81, 24] ty #[.map (some b), uV s]).run Tryz.prog w = _
      simp [Builtin.delete_, run_underlying Tryz.underlying81, MapKept.run_getObj_map h0, lawU.check w _ hkey, h1, MapKept.run_setObj_map _ h0, Result.andThen, setBlock]
    · rw [delU_none ha]
      exact ⟨_, _, heap_setBlock_same h0 _, hst, hr⟩
  · obtain ⟨p, hp, hk, hv0⟩ := hr.at h2
    obtain rfl := uV_inj (hk.symm.trans h3)
    have hjs : j < es.size := by simpa using (List.getElem?_eq_some_iff.1 h2).1
    have hsub : (es.eraseIdxIfInBounds j).toList = es.toList.eraseIdx j := by
      unfold Array.eraseIdxIfInBounds
      rw [dif_pos hjs]
      simp
    refine ⟨setBlock w b (.map (es.eraseIdxIfInBounds j) clock), ?_, ?_, turn_setBlock _ _ _, by simp [setBlock]⟩
    · show (Builtin.delete_ #[81, 24] ty #[.map (some b), uV p.1]).run Tryz.prog w = _
      simp [Builtin.delete_, run_underlying Tryz.underlying81, MapKept.run_getObj_map h0, lawU.check w _ hkey, h1, MapKept.run_setObj_map _ h0, Result.andThen, setBlock]
    · rw [delU_at (stamped_nodup hst hr) hp]
      refine ⟨_, _, heap_setBlock_same h0 _, MapKept.stamped_erase hst j, by rw [hsub, map_erase', hr.eq, ← map_erase'], fun q hq => hr.ok q ((List.eraseIdx_sublist _ _).subset hq)⟩
/-- 'len(m)'. -/
theorem UMap.len {w : World} {b : Nat} {L : List Uc} (h : UMap w b L) (ty : TypeId) : (Builtin.len_ #[81] ty #[.map (some b)]).run Tryz.prog w = .ok (.int .i64 (L.length : Nat)) w := by
  obtain ⟨es, clock, h0, hst, hr⟩ := h
  have hl : es.size = L.length := by
    have := congrArg List.length hr.eq
    simpa using this
  simp [Builtin.len_, run_underlying Tryz.underlying81, MapKept.run_getObj_map h0, hl, Result.andThen, goInt]
theorem wpList_len_run {P : Program} {w : World} {ops : Array Oper} {rest : List Oper} {o : Oper} {a : Act} {Q : Exit → Act → World → Prop} (hgd : o.guard = none) (m : Operand) (t : TypeId)
    (ho : o.op = .call { callee := .builtin .len, args := #[m], argTypes := #[t] }) {v : Value} (hrun : (Builtin.len_ #[t] o.type #[a.eval m]).run P w = .ok v w) (h : wpList P ops Q rest (a.put o.dst v) w) : wpList P ops Q (o :: rest) a w := by
  refine wpList_plain hgd fun K' hK' => ?_
  unfold Oper.wp
  simp [execOp, ho, resolve, invoke, builtin, hrun, Result.andThen]
  exact hK' _ _ h
theorem wpList_delete_run {P : Program} {w : World} {ops : Array Oper} {rest : List Oper} {o : Oper} {a : Act} {Q : Exit → Act → World → Prop} (hgd : o.guard = none) (m x : Operand) (t k : TypeId)
    (ho : o.op = .call { callee := .builtin .delete, args := #[m, x], argTypes := #[t, k] }) {w' : World} (hrun : (Builtin.delete_ #[t, k] o.type #[a.eval m, a.eval x]).run P w = .ok (.tuple #[]) w') (h : wpList P ops Q rest (a.put o.dst (.tuple #[])) w') : wpList P ops Q (o :: rest) a w := by
  refine wpList_plain hgd fun K' hK' => ?_
  unfold Oper.wp
  simp [execOp, ho, resolve, invoke, builtin, hrun, Result.andThen]
  exact hK' _ _ h
theorem wpList_mapUpdate_run {P : Program} {w : World} {ops : Array Oper} {rest : List Oper} {o : Oper} {a : Act} {Q : Exit → Act → World → Prop} (hgd : o.guard = none) (m x v : Operand) (t : TypeId)
    (ho : o.op = .mapUpdate t m x v) {w' : World} (hrun : (Instr.mapUpdate t (a.eval m) (a.eval x) (a.eval v)).run P w = .ok () w') (h : wpList P ops Q rest (a.put o.dst undef) w') : wpList P ops Q (o :: rest) a w := by
  refine wpList_plain hgd fun K hK => ?_
  unfold Oper.wp
  simp [execOp, ho, hrun, Result.andThen]
  exact hK _ _ h
theorem eqlU_nil (w : World) : (binOp .eql 81 (.map none) (.map none)).run Tryz.prog w = .ok (.bool true) w := by kernel_rfl
theorem eqlU_some (m : Nat) (w : World) : (binOp .eql 81 (.map (some m)) (.map none)).run Tryz.prog w = .ok (.bool false) w := by kernel_rfl
end Go.Proofs.YtejhbaeeaejcaaaGreat
/- What the history's calls come to, in plain Lean: a row of versions that rises. No program. -/
namespace Go.Proofs.YtejhbaeeaejcaaaGreat

/-- The number of a key. -/
def keyN (v b s : Nat) : Nat := v * 79228162514264337593543950336 + b * 18446744073709551616 + s
theorem keyN_vol {v b s : Nat} (hb : b < 4294967296) (hs : s < 18446744073709551616) : kVol (keyN v b s) = v := by unfold kVol keyN; omega
theorem keyN_blk {v b s : Nat} (hb : b < 4294967296) (hs : s < 18446744073709551616) : kBlk (keyN v b s) = b := by unfold kBlk keyN; omega
theorem keyN_seq {v b s : Nat} (hs : s < 18446744073709551616) : kSeq (keyN v b s) = s := by unfold kSeq keyN; omega
theorem keyN_of (k : Nat) : keyN (kVol k) (kBlk k) (kSeq k) = k := by unfold keyN kVol kBlk kSeq; omega
theorem keyN_v {v b s : Nat} (hb : b < 4294967296) (hs : s < 18446744073709551616) : keyV (keyN v b s) = .agg #[.int .u16 (v : Int), .int .u32 (b : Int), .int .u64 (s : Int)] := by
  unfold keyV
  rw [keyN_vol hb hs, keyN_blk hb hs, keyN_seq hs]
theorem kSeq_lt (k : Nat) : kSeq k < 18446744073709551616 := by unfold kSeq; omega
theorem kBlk_lt (k : Nat) : kBlk k < 4294967296 := by unfold kBlk; omega

/-- The block of the version that holds at a number: a hole is 0. -/
def atL (l : List En) (v b s : Nat) : Nat :=
  match floorE l (keyN v b s) with
  | some e => if kVol e.1 = v ∧ kBlk e.1 = b then e.2 else 0
  | none => 0
/-- How many versions have a block. -/
def cntA (l : List En) (b : Nat) : Nat := (l.filter fun x => decide (x.2 = b)).length
/-- All numbers are a machine's. -/
def Fit (l : List En) : Prop := ∀ x ∈ l, x.1 ≤ 5192296858534827628530496329220095 ∧ x.2 < 4294967296
theorem Fit.vol {l : List En} (h : Fit l) {x : En} (hx : x ∈ l) : kVol x.1 < 65536 := by
  have := (h x hx).1
  unfold kVol; omega
/-- The blocks: which are free, how often each other one is held. -/
structure HInv (n : Nat) (l : List En) (F : List Nat) (L : List Uc) : Prop where
  cnt : ∀ b, 0 < b → cntU L b = cntA l b
  zero : cntU L 0 = 0
  all : ∀ x, (0 < x ∧ x ≤ n) ↔ (x ∈ F ∨ 0 < cntU L x)
  dis : ∀ x ∈ F, cntU L x = 0

theorem cntA_le (l : List En) (b : Nat) : cntA l b ≤ l.length := List.length_filter_le _ _
theorem cntA_pos {l : List En} {e : En} (h : e ∈ l) : 0 < cntA l e.2 := List.length_pos_iff.2 fun h0 => by
  have : e ∈ l.filter fun x => decide (x.2 = e.2) := List.mem_filter.2 ⟨h, by simp⟩
  rw [h0] at this
  cases this
theorem cntA_cons (x : En) (l : List En) (b : Nat) : cntA (x :: l) b = (if x.2 = b then 1 else 0) + cntA l b := by
  unfold cntA
  by_cases h : x.2 = b
  · simp [h]; omega
  · simp [h]
theorem cntA_set {l : List En} {e : En} (hn : e.1 ∉ l.map (·.1)) (b : Nat) : cntA (setE l e) b = cntA l b + if e.2 = b then 1 else 0 := by
  induction l with
  | nil => rw [setE, cntA_cons]; simp [cntA]
  | cons x l ih =>
    simp only [List.map_cons, List.mem_cons, not_or] at hn
    unfold setE
    split
    · rw [cntA_cons, cntA_cons, ih hn.2]; omega
    · rw [if_neg (fun h => hn.1 h.symm), cntA_cons]; omega
theorem cntA_del {l : List En} (hr : Rise l) {e : En} (he : e ∈ l) (b : Nat) : cntA (delE l e.1) b + (if e.2 = b then 1 else 0) = cntA l b := by
  induction l with
  | nil => cases he
  | cons x l ih =>
    have hx := (List.pairwise_cons.1 hr).1
    unfold delE
    rcases List.mem_cons.1 he with rfl | he
    · rw [if_neg (by omega), if_pos rfl, cntA_cons]; omega
    · have := hx e he
      rw [if_pos this, cntA_cons, cntA_cons, ← ih (List.pairwise_cons.1 hr).2 he]; omega
theorem setE_has {l : List En} {e : En} {x : En} (hx : x ∈ l) (h : x.1 ≠ e.1) : x ∈ setE l e := by
  induction l with
  | nil => cases hx
  | cons y l ih =>
    unfold setE
    rcases List.mem_cons.1 hx with rfl | hx
    · split
      · exact List.mem_cons_self
      · first
          | (rw [if_neg h]; exact List.mem_cons_of_mem _ List.mem_cons_self)
          | exact List.mem_cons_of_mem _ List.mem_cons_self
    · split
      · exact List.mem_cons_of_mem _ (ih hx)
      · split
        · exact List.mem_cons_of_mem _ hx
        · exact List.mem_cons_of_mem _ (List.mem_cons_of_mem _ hx)
theorem setE_self (l : List En) (e : En) : e ∈ setE l e := by
  induction l with
  | nil => exact List.mem_cons_self
  | cons y l ih =>
    unfold setE
    split
    · exact List.mem_cons_of_mem _ ih
    · split
      · exact List.mem_cons_self
      · exact List.mem_cons_self
theorem Fit.set {l : List En} {e : En} (h : Fit l) (he : e.1 ≤ 5192296858534827628530496329220095 ∧ e.2 < 4294967296) : Fit (setE l e) := fun x hx => by
  rcases setE_mem hx with rfl | hx
  · exact he
  · exact h x hx
theorem Fit.del {l : List En} (h : Fit l) (k : Nat) : Fit (delE l k) := fun x hx => h x ((delE_sub l k).subset hx)
theorem setE_len_new {l : List En} {e : En} (hr : Rise l) (hn : e.1 ∉ l.map (·.1)) : (setE l e).length = l.length + 1 := by
  rw [setE_len l e hr]
  have : (getE l e.1).isSome = false := by
    clear hr
    induction l with
    | nil => rfl
    | cons x l ih =>
      simp only [List.map_cons, List.mem_cons, not_or] at hn
      unfold getE
      rw [if_neg (fun h => hn.1 h.symm)]
      exact ih hn.2
  simp [this]
/-- A new version of a hole, or of a block that is held already. -/
theorem HInv.hole {n : Nat} {l : List En} {F : List Nat} {L : List Uc} (h : HInv n l F L) {k : Nat} (hn : k ∉ l.map (·.1)) : HInv n (setE l (k, 0)) F L :=
  ⟨fun b hb => by rw [h.cnt b hb, cntA_set hn, if_neg (by show ¬ 0 = b; omega)]; rfl, h.zero, h.all, h.dis⟩
theorem HInv.share {n : Nat} {l : List En} {F : List Nat} {L : List Uc} (h : HInv n l F L) {k a : Nat} (hn : k ∉ l.map (·.1)) (ha : 0 < a) (hc : 0 < cntU L a) (hset : ∀ x, cntU (setU L a (cntU L a + 1)) x = if x = a then cntU L a + 1 else cntU L x) : HInv n (setE l (k, a)) F (setU L a (cntU L a + 1)) := by
  refine ⟨fun b hb => ?_, ?_, fun x => ?_, fun x hx => ?_⟩
  · rw [hset, cntA_set hn]
    by_cases e : b = a
    · rw [if_pos e, if_pos e.symm, ← h.cnt b hb, e]
    · rw [if_neg e, if_neg (fun h => e h.symm), ← h.cnt b hb]; rfl
  · rw [hset, if_neg (by omega)]; exact h.zero
  · rw [hset, h.all]
    by_cases e : x = a
    · rw [if_pos e, e]
      exact ⟨fun _ => .inr (by omega), fun _ => .inr hc⟩
    · rw [if_neg e]
  · rw [hset, if_neg (fun e => by have := h.dis x hx; rw [e] at this; omega)]
    exact h.dis x hx
theorem HInv.take {n : Nat} {l : List En} {F : List Nat} {L : List Uc} (h : HInv n l F L) (hF : F.Nodup) {k a : Nat} (hn : k ∉ l.map (·.1)) (ha : a ∈ F) (hset : ∀ x, cntU (setU L a (cntU L a + 1)) x = if x = a then cntU L a + 1 else cntU L x) : HInv n (setE l (k, a)) (F.erase a) (setU L a (cntU L a + 1)) := by
  have ha0 := h.dis a ha
  have hpos := ((h.all a).2 (.inl ha)).1
  refine ⟨fun b hb => ?_, ?_, fun x => ?_, fun x hx => ?_⟩
  · rw [hset, cntA_set hn]
    by_cases e : b = a
    · rw [if_pos e, if_pos e.symm, ← h.cnt b hb, e]
    · rw [if_neg e, if_neg (fun h => e h.symm), ← h.cnt b hb]; rfl
  · rw [hset, if_neg (by omega)]; exact h.zero
  · rw [hset, h.all, hF.mem_erase_iff]
    by_cases e : x = a
    · rw [if_pos e, e]
      exact ⟨fun _ => .inr (by omega), fun _ => .inl ha⟩
    · rw [if_neg e]
      simp [e]
  · have hx' := hF.mem_erase_iff.1 hx
    rw [hset, if_neg hx'.1]
    exact h.dis x hx'.2
theorem HInv.cutHole {n : Nat} {l : List En} {F : List Nat} {L : List Uc} (h : HInv n l F L) (hr : Rise l) {e : En} (he : e ∈ l) (h0 : e.2 = 0) : HInv n (delE l e.1) F L :=
  ⟨fun b hb => by rw [h.cnt b hb, ← cntA_del hr he b, if_neg (by omega)]; rfl, h.zero, h.all, h.dis⟩
theorem HInv.cutMore {n : Nat} {l : List En} {F : List Nat} {L : List Uc} (h : HInv n l F L) (hr : Rise l) {e : En} (he : e ∈ l) {c : Nat} (hc : cntU L e.2 = c + 2) (hset : ∀ x, cntU (setU L e.2 (c + 1)) x = if x = e.2 then c + 1 else cntU L x) : HInv n (delE l e.1) F (setU L e.2 (c + 1)) := by
  have hpos : 0 < e.2 := Nat.pos_of_ne_zero fun e0 => by rw [e0, h.zero] at hc; omega
  refine ⟨fun b hb => ?_, ?_, fun x => ?_, fun x hx => ?_⟩
  · have hd := cntA_del hr he b
    rw [hset]
    by_cases eb : b = e.2
    · rw [if_pos eb.symm, ← h.cnt b hb] at hd
      rw [if_pos eb]
      rw [eb] at hd ⊢
      omega
    · rw [if_neg (fun h => eb h.symm)] at hd
      rw [if_neg eb, h.cnt b hb, ← hd]; rfl
  · rw [hset, if_neg (by omega)]; exact h.zero
  · rw [hset, h.all]
    by_cases e : x = e.2
    · rw [if_pos e, e]
      exact ⟨fun _ => .inr (by omega), fun _ => .inr (by omega)⟩
    · rw [if_neg e]
  · rw [hset, if_neg (fun e => by have := h.dis x hx; rw [e] at this; omega)]
    exact h.dis x hx
theorem HInv.cutLast {n : Nat} {l : List En} {F : List Nat} {L : List Uc} (h : HInv n l F L) (hr : Rise l) {e : En} (he : e ∈ l) (hc : cntU L e.2 = 1) (hset : ∀ x, cntU (delU L e.2) x = if x = e.2 then 0 else cntU L x) : HInv n (delE l e.1) (e.2 :: F) (delU L e.2) := by
  have hpos : 0 < e.2 := Nat.pos_of_ne_zero fun e0 => by rw [e0, h.zero] at hc; omega
  refine ⟨fun b hb => ?_, ?_, fun x => ?_, fun x hx => ?_⟩
  · have hd := cntA_del hr he b
    rw [hset]
    by_cases eb : b = e.2
    · rw [if_pos eb.symm, ← h.cnt b hb] at hd
      rw [if_pos eb]
      rw [eb] at hd ⊢
      omega
    · rw [if_neg (fun h => eb h.symm)] at hd
      rw [if_neg eb, h.cnt b hb, ← hd]; rfl
  · rw [hset, if_neg (by omega)]; exact h.zero
  · rw [hset, h.all, List.mem_cons]
    by_cases e : x = e.2
    · rw [if_pos e, e]
      exact ⟨fun _ => .inl (.inl rfl), fun _ => .inr (by omega)⟩
    · rw [if_neg e]
      simp [e]
  · rw [hset]
    by_cases e : x = e.2
    · rw [if_pos e]
    · rw [if_neg e]
      rcases List.mem_cons.1 hx with h' | hx
      · exact absurd h' e
      · exact h.dis x hx
theorem HInv.empty (n : Nat) (F : List Nat) (hF : ∀ x, x ∈ F ↔ 0 < x ∧ x ≤ n) : HInv n [] F [] :=
  ⟨fun b _ => rfl, rfl, fun x => by rw [hF]; simp [cntU], fun x _ => rfl⟩

/-- Without some versions. -/
def delAll (l : List En) : List En → List En
  | [] => l
  | e :: es => delAll (delE l e.1) es
theorem mem_delE {l : List En} (hr : Rise l) {e x : En} (he : e ∈ l) : x ∈ delE l e.1 ↔ x ∈ l ∧ x ≠ e := by
  induction l with
  | nil => cases he
  | cons y l ih =>
    have hy := (List.pairwise_cons.1 hr).1
    unfold delE
    rcases List.mem_cons.1 he with rfl | he
    · rw [if_neg (by omega), if_pos rfl]
      constructor
      · intro hx
        exact ⟨List.mem_cons_of_mem _ hx, fun e2 => by have := hy x hx; rw [e2] at this; omega⟩
      · rintro ⟨hx, hne⟩
        rcases List.mem_cons.1 hx with rfl | hx
        · exact absurd rfl hne
        · exact hx
    · have hlt := hy e he
      rw [if_pos hlt, List.mem_cons, List.mem_cons, ih (List.pairwise_cons.1 hr).2 he]
      constructor
      · rintro (rfl | ⟨h1, h2⟩)
        · exact ⟨.inl rfl, fun e2 => by rw [e2] at hlt; omega⟩
        · exact ⟨.inr h1, h2⟩
      · rintro ⟨rfl | h1, h2⟩
        · exact .inl rfl
        · exact .inr ⟨h1, h2⟩
theorem delE_filter {l : List En} (hr : Rise l) {e : En} (he : e ∈ l) : delE l e.1 = l.filter fun x => decide (x ≠ e) := by
  induction l with
  | nil => cases he
  | cons y l ih =>
    have hy := (List.pairwise_cons.1 hr).1
    unfold delE
    rcases List.mem_cons.1 he with rfl | he
    · rw [if_neg (by omega), if_pos rfl, List.filter_cons_of_neg (by simp)]
      refine (List.filter_eq_self.2 fun x hx => ?_).symm
      have := hy x hx
      simp only [ne_eq, decide_not, Bool.not_eq_true', decide_eq_false_iff_not]
      intro e2
      rw [e2] at this
      omega
    · have hlt := hy e he
      rw [if_pos hlt, List.filter_cons_of_pos (by simp only [ne_eq, decide_not, Bool.not_eq_true', decide_eq_false_iff_not]; intro e2; rw [e2] at hlt; omega), ih (List.pairwise_cons.1 hr).2 he]
theorem delAll_filter : ∀ {es l : List En}, Rise l → (∀ e ∈ es, e ∈ l) → es.Nodup → delAll l es = l.filter fun x => decide (x ∉ es)
  | [], l, _, _, _ => by
    show l = _
    exact (List.filter_eq_self.2 fun x _ => by simp).symm
  | e :: es, l, hr, hs, hn => by
    have hn' := List.nodup_cons.1 hn
    have he := hs e List.mem_cons_self
    show delAll (delE l e.1) es = _
    rw [delAll_filter (delE_rise hr) (fun x hx => (mem_delE hr he).2 ⟨hs x (List.mem_cons_of_mem _ hx), fun e2 => hn'.1 (by rw [← e2]; exact hx)⟩) hn'.2, delE_filter hr he, List.filter_filter]
    refine List.filter_congr fun x _ => ?_
    by_cases h1 : x = e <;> by_cases h2 : x ∈ es <;> simp [h1, h2]
theorem rise_nodup {l : List En} (h : Rise l) : l.Nodup := List.Pairwise.imp (fun {a b} hab e => by rw [e] at hab; omega) h
theorem rise_keys {l : List En} (h : Rise l) : (l.map (·.1)).Pairwise (· < ·) := List.pairwise_map.2 h
theorem delAll_snoc : ∀ (es : List En) (l : List En) (e : En), delAll l (es ++ [e]) = delE (delAll l es) e.1
  | [], _, _ => rfl
  | x :: es, l, e => delAll_snoc es (delE l x.1) e
end Go.Proofs.YtejhbaeeaejcaaaGreat
/- Changes in place of a row of values of k cells: the block of a row with what is known of its start (RowB); copy, clear, append in room, append of a make. Conditions: those of each theorem. -/
namespace Go.Proofs.YtejhbaeeaejcaaaGreat
open Go.RowKit

section
variable {α : Type} (enc : α → List Value) (k : Nat)
structure RowB (e : TypeId) (w : World) (g cap : Nat) (l : List α) : Prop where
  ex : ∃ cur, w.heap[g]? = some (.cells cur e (0, 0)) ∧ cur.size = cap * k ∧ cur.toList.take (l.length * k) = cellsE enc l
  le : l.length ≤ cap
  cm : cap ≤ maxLen
end
/-- Only one block has turned. -/
structure Turn (g : Nat) (w w' : World) : Prop where
  os : w'.os = w.os
  tape : w'.tape = w.tape
  output : w'.output = w.output
  size : w'.heap.size = w.heap.size
  block : ∀ j, j ≠ g → w'.heap[j]? = w.heap[j]?
theorem Turn.refl (g : Nat) (w : World) : Turn g w w := ⟨rfl, rfl, rfl, rfl, fun _ _ => rfl⟩
theorem Turn.trans {g : Nat} {w w1 w2 : World} (h : Turn g w w1) (h' : Turn g w1 w2) : Turn g w w2 := ⟨h'.os.trans h.os, h'.tape.trans h.tape, h'.output.trans h.output, h'.size.trans h.size, fun j hj => (h'.block j hj).trans (h.block j hj)⟩
theorem Turn.grown {g : Nat} {w w' : World} (h : Turn g w w') : w.grownBy w' (some g) := ⟨h.os, h.tape, h.output, by rw [h.size]; exact Nat.le_refl _, fun j _ hne => h.block j (fun e => hne (by rw [e]))⟩
theorem Turn.setRow (g : Nat) (w : World) (c : Array Value) : Turn g w (w.setRow g c) := ⟨rfl, rfl, rfl, by simp, fun j hj => setRow_other w g j c hj⟩

section
variable {α : Type} {enc : α → List Value} {k : Nat}
theorem cellsE_take (hk : ∀ x, (enc x).length = k) (l : List α) (i : Nat) : (cellsE enc l).take (i * k) = cellsE enc (l.take i) := by
  induction l generalizing i with
  | nil => simp [cellsE]
  | cons x l ih =>
    cases i with
    | zero => simp [cellsE]
    | succ i =>
      rw [List.take_succ_cons, cellsE_cons, cellsE_cons, show (i + 1) * k = (enc x).length + i * k by rw [hk, Nat.add_mul]; omega, List.take_length_add_append, ih]
theorem cellsE_drop (hk : ∀ x, (enc x).length = k) (l : List α) (i : Nat) : (cellsE enc l).drop (i * k) = cellsE enc (l.drop i) := by
  induction l generalizing i with
  | nil => simp [cellsE]
  | cons x l ih =>
    cases i with
    | zero => simp [cellsE]
    | succ i =>
      rw [List.drop_succ_cons, cellsE_cons, show (i + 1) * k = (enc x).length + i * k by rw [hk, Nat.add_mul]; omega, List.drop_length_add_append, ih]
theorem RowB.own (hk : ∀ x, (enc x).length = k) {e : TypeId} {w : World} {g cap B : Nat} {l : List α} (h : RowB enc k e w g cap l) (hB : B ≤ g) : OwnE enc k e w B (.slice (some ⟨g, 0, none⟩) l.length cap) l := by
  obtain ⟨cur, h1, h2, h3⟩ := h.ex
  exact ⟨cellsE_len enc k hk l, .inr ⟨g, cap, cur, rfl, hB, h1, h.le, h.cm, h2, h3⟩⟩
theorem OwnE.cases {e : TypeId} {w : World} {B : Nat} {v : Value} {l : List α} (h : OwnE enc k e w B v l) : (v = .slice none 0 0 ∧ l = []) ∨ ∃ g cap, v = .slice (some ⟨g, 0, none⟩) l.length cap ∧ B ≤ g ∧ g < w.heap.size ∧ RowB enc k e w g cap l := by
  rcases h.2 with ⟨rfl, h0⟩ | ⟨g, cap, cur, rfl, hbg, hg, hnc, hcm, hcs, htake⟩
  · exact .inl ⟨rfl, List.eq_nil_of_length_eq_zero h0⟩
  · exact .inr ⟨g, cap, rfl, hbg, (Array.getElem?_eq_some_iff.1 hg).1, ⟨cur, hg, hcs, htake⟩, hnc, hcm⟩
theorem RowB.heap {e : TypeId} {w w' : World} {g cap : Nat} {l : List α} (h : RowB enc k e w g cap l) (hh : w'.heap[g]? = w.heap[g]?) : RowB enc k e w' g cap l := by
  obtain ⟨cur, h1, h2, h3⟩ := h.ex
  exact ⟨⟨cur, hh.trans h1, h2, h3⟩, h.le, h.cm⟩
theorem RowB.lt {e : TypeId} {w : World} {g cap : Nat} {l : List α} (h : RowB enc k e w g cap l) : g < w.heap.size := by
  obtain ⟨cur, h1, -⟩ := h.ex
  exact (Array.getElem?_eq_some_iff.1 h1).1
theorem RowB.take (hk : ∀ x, (enc x).length = k) {e : TypeId} {w : World} {g cap : Nat} {l : List α} (h : RowB enc k e w g cap l) (i : Nat) : RowB enc k e w g cap (l.take i) := by
  obtain ⟨cur, h1, h2, h3⟩ := h.ex
  refine ⟨⟨cur, h1, h2, ?_⟩, by rw [List.length_take]; have := h.le; omega, h.cm⟩
  rw [← cellsE_take hk, ← h3, List.take_take, List.length_take]
  rcases Nat.le_total i l.length with h' | h'
  · rw [Nat.min_eq_left h', Nat.min_eq_left (Nat.mul_le_mul_right _ h')]
  · rw [Nat.min_eq_right h', Nat.min_eq_right (Nat.mul_le_mul_right _ h')]
theorem RowB.row (hk : ∀ x, (enc x).length = k) {e : TypeId} {w : World} {g cap : Nat} {l : List α} (h : RowB enc k e w g cap l) : RowE enc k w (some ⟨g, 0, none⟩) l.length l := by
  obtain ⟨a, cap', hv, hr, -, -⟩ := (h.own hk (Nat.le_refl g)).row hk
  simp only [Value.slice.injEq] at hv
  obtain ⟨rfl, -, -⟩ := hv
  exact hr
theorem RowE.cells (hk : ∀ x, (enc x).length = k) (hk0 : 0 < k) {w : World} {b o m : Nat} {l2 : List α} (hs : RowE enc k w (some ⟨b, o, none⟩) m l2) : ∀ j u, (cellsE enc l2)[j]? = some u → w.cell? ((⟨b, o, none⟩ : Addr).add j) = some u := fun j u hu => by
  have hjl : j < l2.length * k := by rw [← cellsE_len enc k hk]; exact (List.getElem?_eq_some_iff.1 hu).1
  have hq : j / k < l2.length := Nat.div_lt_of_lt_mul (by rw [Nat.mul_comm]; exact hjl)
  have hm : j % k < k := Nat.mod_lt _ hk0
  have hd : j = j / k * k + j % k := by rw [Nat.mul_comm]; exact (Nat.div_add_mod j k).symm
  obtain ⟨b', o', he, h1⟩ := hs.2 (j / k) l2[j / k] (List.getElem?_eq_getElem hq)
  simp only [Option.some.injEq, Addr.mk.injEq, and_true] at he
  obtain ⟨rfl, rfl⟩ := he
  have h2 := cellsE_at enc k hk l2 (j / k) (j % k) _ (List.getElem?_eq_getElem hq) hm
  rw [← hd, hu] at h2
  have h3 := h1 (j % k) u h2.symm
  rw [add_pl]
  rw [Nat.add_assoc, ← hd] at h3
  exact h3
theorem RowE.none' (w : World) (a : Option Addr) : RowE enc k w a 0 [] := ⟨rfl, fun i r h => by simp at h⟩

/-- Cells laid over a row from a place on. -/
theorem RowB.over (hk : ∀ x, (enc x).length = k) {e : TypeId} {w : World} {g cap : Nat} {l : List α} (h : RowB enc k e w g cap l) {cur : Array Value} (hg : w.heap[g]? = some (.cells cur e (0, 0))) (i : Nat) (hi : i ≤ l.length) (l2 : List α) (hc : i + l2.length ≤ cap) :
    RowB enc k e (w.setRow g (cur.toList.take (i * k) ++ cellsE enc l2 ++ cur.toList.drop (i * k + (cellsE enc l2).length)).toArray) g cap (l.take i ++ l2) ∧
    (i + l2.length ≤ l.length → RowB enc k e (w.setRow g (cur.toList.take (i * k) ++ cellsE enc l2 ++ cur.toList.drop (i * k + (cellsE enc l2).length)).toArray) g cap (l.take i ++ l2 ++ l.drop (i + l2.length))) := by
  obtain ⟨cur', h1, h2, h3⟩ := h.ex
  rw [hg] at h1
  simp only [Option.some.injEq, Obj.cells.injEq, and_true] at h1
  obtain rfl : cur = cur' := h1
  have hl2 := cellsE_len enc k hk l2
  have hle := h.le
  have e1 : cur.toList.take (i * k) = cellsE enc (l.take i) := by
    rw [← cellsE_take hk, ← h3, List.take_take, Nat.min_eq_left (Nat.mul_le_mul_right _ hi)]
  have hli : (l.take i).length = i := by rw [List.length_take]; omega
  have hik : i * k + l2.length * k ≤ cap * k := by rw [← Nat.add_mul]; exact Nat.mul_le_mul_right _ hc
  have hsz : (cur.toList.take (i * k) ++ cellsE enc l2 ++ cur.toList.drop (i * k + (cellsE enc l2).length)).toArray.size = cap * k := by
    simp only [List.size_toArray, List.length_append, List.length_take, List.length_drop, Array.length_toList, hl2, h2]
    omega
  refine ⟨⟨⟨_, setRow_heap w g cur _ e _ hg, hsz, ?_⟩, by rw [List.length_append, hli]; exact hc, h.cm⟩, fun hl => ⟨⟨_, setRow_heap w g cur _ e _ hg, hsz, ?_⟩, ?_, h.cm⟩⟩
  · rw [cellsE_app, e1, show (l.take i ++ l2).length * k = (cellsE enc (l.take i) ++ cellsE enc l2).length by rw [List.length_append, List.length_append, cellsE_len enc k hk, hl2, Nat.add_mul]]
    exact List.take_left
  · have e2 : (cur.toList.drop (i * k + (cellsE enc l2).length)).take (l.length * k - (i * k + (cellsE enc l2).length)) = cellsE enc (l.drop (i + l2.length)) := by
      rw [← cellsE_drop hk, ← h3, List.drop_take, hl2, Nat.add_mul]
    rw [cellsE_app, cellsE_app, e1, ← e2, show (l.take i ++ l2 ++ l.drop (i + l2.length)).length * k = (cellsE enc (l.take i) ++ cellsE enc l2).length + (l.length * k - (i * k + (cellsE enc l2).length)) by
      rw [List.length_append, List.length_append, List.length_append, List.length_drop, cellsE_len enc k hk, hl2, hli, ← Nat.add_mul, ← Nat.sub_mul, ← Nat.add_mul]]
    exact List.take_length_add_append _
  · rw [List.length_append, List.length_append, List.length_drop, hli]
    omega

theorem run_copyE (hk : ∀ x, (enc x).length = k) (hone : ∀ x, ∀ u ∈ enc x, u.oneCell' = true) {P : Program} {dT sT e : TypeId} {i0 : TypeInfo} (hu : P.underlying dT = some (.slice e)) (hi0 : P.info? e = some i0) (hz1 : i0.size = k)
    {w : World} {g cap : Nat} {l : List α} (h : RowB enc k e w g cap l) (i : Nat) (hi : i ≤ l.length) (l2 : List α) (a : Addr) (hsrc : ∀ j u, (cellsE enc l2)[j]? = some u → w.cell? (a.add j) = some u) (hc : i + l2.length ≤ cap) (sLen dLen : Nat) (hn : l2.length = Nat.min sLen dLen) :
    ∃ w', (∀ ty dCap sCap, (Builtin.copy_ #[dT, sT] ty #[.slice (some ⟨g, i * k, none⟩) dLen dCap, .slice (some a) sLen sCap]).run P w = .ok (goInt l2.length) w') ∧ RowB enc k e w' g cap (l.take i ++ l2) ∧
      (i + l2.length ≤ l.length → RowB enc k e w' g cap (l.take i ++ l2 ++ l.drop (i + l2.length))) ∧ Turn g w w' := by
  obtain ⟨cur, h1, h2, h3⟩ := h.ex
  have hl2 := cellsE_len enc k hk l2
  have hik : i * k + l2.length * k ≤ cap * k := by rw [← Nat.add_mul]; exact Nat.mul_le_mul_right _ hc
  have hov := h.over hk h1 i hi l2 hc
  refine ⟨_, fun ty dCap sCap => ?_, hov.1, hov.2, Turn.setRow _ _ _⟩
  have hf := run_firstCells_some (P := P) w i0.size l2.length a sLen sCap (cellsE enc l2) (by rw [hl2, hz1]) hsrc
  have hst := run_storeCells_at P g (i * k) e (cellsE enc l2) 0 cur w h1 (by rw [hl2, h2]; omega) (fun u hu => by
    obtain ⟨x, -, hx⟩ := List.mem_flatMap.1 hu
    exact hone x u hx)
  simp only [Nat.add_zero] at hst
  simp [Builtin.copy_, run_underlying hu, Builtin.lenOf, sizeOf, typeInfo, hi0, ← hn, hf, hst]

/-- Append in room, behind a part of what the row holds. -/
theorem run_appRoomE (hk : ∀ x, (enc x).length = k) (hone : ∀ x, ∀ u ∈ enc x, u.oneCell' = true) {P : Program} {t e : TypeId} {i0 : TypeInfo} (hu : P.underlying t = some (.slice e)) (hi0 : P.info? e = some i0) (hz1 : i0.size = k)
    {w : World} {g cap : Nat} {l : List α} (h : RowB enc k e w g cap l) (i : Nat) (hi : i ≤ l.length) (l2 : List α) (a : Addr) (hsrc : ∀ j u, (cellsE enc l2)[j]? = some u → w.cell? (a.add j) = some u) (hc : i + l2.length ≤ cap) :
    ∃ w', (∀ ty c, (Builtin.append_ #[t, t] ty #[.slice (some ⟨g, 0, none⟩) i cap, .slice (some a) l2.length c]).run P w = .ok (.slice (some ⟨g, 0, none⟩) (i + l2.length) cap) w') ∧ RowB enc k e w' g cap (l.take i ++ l2) ∧ Turn g w w' := by
  obtain ⟨cur, h1, h2, h3⟩ := h.ex
  have hl2 := cellsE_len enc k hk l2
  have hik : i * k + l2.length * k ≤ cap * k := by rw [← Nat.add_mul]; exact Nat.mul_le_mul_right _ hc
  refine ⟨_, fun ty c => ?_, (h.over hk h1 i hi l2 hc).1, Turn.setRow _ _ _⟩
  have := run_append_room (P := P) w t ty e i0 hu hi0 g i cap cur h1 a l2.length c (cellsE enc l2) (by rw [hl2, hz1]) hsrc (fun u hu => by
    obtain ⟨x, -, hx⟩ := List.mem_flatMap.1 hu
    exact hone x u hx) hc (by rw [hl2, hz1, h2]; exact hik)
  rw [hz1] at this
  exact this

/-- clear of cells behind what is known. -/
theorem run_clearE (hk0 : 0 < k) {P : Program} {t e : TypeId} {z : Value} (hu : P.underlying t = some (.slice e)) (hv : ∀ w, (zeroValue e).run P w = .ok z w) (hzc : z.cells.size = k) (hz1 : ∀ u ∈ z.cells, u.oneCell' = true)
    {w : World} {g cap : Nat} {l : List α} (h : RowB enc k e w g cap l) (i n : Nat) (hi : l.length ≤ i) (hc : i + n ≤ cap) (o : Nat) (ho : n = 0 ∨ o = i * k) :
    ∃ w', (∀ ty c, (Builtin.clear_ #[t] ty #[.slice (some ⟨g, o, none⟩) n c]).run P w = .ok (.tuple #[]) w') ∧ RowB enc k e w' g cap l ∧ Turn g w w' := by
  cases n with
  | zero => exact ⟨w, fun ty c => by simp [Builtin.clear_, run_underlying hu], h, Turn.refl _ _⟩
  | succ n =>
    obtain rfl : o = i * k := by omega
    obtain ⟨cur, h1, h2, h3⟩ := h.ex
    have hzl : (Builtin.zeroCells z.cells (n + 1)).toList.length = (n + 1) * k := by rw [Array.length_toList, size_zeroCells, hzc]
    have hik : i * k + (n + 1) * k ≤ cap * k := by rw [← Nat.add_mul]; exact Nat.mul_le_mul_right _ hc
    have hlk : l.length * k ≤ i * k := Nat.mul_le_mul_right _ hi
    have hst := run_storeCells_at P g (i * k) e (Builtin.zeroCells z.cells (n + 1)).toList 0 cur w h1 (by rw [hzl, h2]; omega) (fun u hu => by
      rw [Array.mem_toList_iff] at hu
      unfold Builtin.zeroCells at hu
      obtain ⟨j, -, rfl⟩ := Array.mem_map.1 hu
      have hlt : j % z.cells.size < z.cells.size := Nat.mod_lt _ (by omega)
      rw [getElem!_pos z.cells _ hlt]
      exact hz1 _ (Array.getElem_mem _))
    simp only [Nat.add_zero] at hst
    generalize hzz : (Builtin.zeroCells z.cells (n + 1)).toList = zz at *
    refine ⟨w.setRow g (cur.toList.take (i * k) ++ zz ++ cur.toList.drop (i * k + zz.length)).toArray, fun ty c => by simp [Builtin.clear_, run_underlying hu, hv, hzz, hst], ⟨⟨_, setRow_heap w g cur _ e _ h1, ?_, ?_⟩, h.le, h.cm⟩, Turn.setRow _ _ _⟩
    · rw [List.size_toArray, List.length_append, List.length_append, List.length_take, List.length_drop, Array.length_toList, hzl, h2]
      omega
    · rw [← h3, List.append_assoc, List.take_append_of_le_length (by rw [List.length_take, show cur.toList.length = cap * k from h2]; omega), List.take_take, Nat.min_eq_left hlk]

/-- Append of a make behind a part of what the row holds, where there is no room: a new row. -/
theorem run_appMakeE (hk : ∀ x, (enc x).length = k) (hk0 : 0 < k) {P : Program} {t tn e : TypeId} {i0 : TypeInfo} {z : Value} {bytes : Nat} {kq kn : IntKind} (hu : P.underlying t = some (.slice e)) (hun : P.underlying tn = some (.int kn)) (hi0 : P.info? e = some i0) (hz : i0.zero = some z) (hz1 : i0.size = k) (hz2 : i0.bytes = bytes) (hzc : z.cells.size = k)
    {w : World} {g cap : Nat} {l : List α} (h : RowB enc k e w g cap l) (i : Nat) (hi : i ≤ l.length) (m : Nat) (hm : 0 < m) (hc : cap < i + m) (hs : i + m ≤ 1000000) (hby : bytes ≤ 1000) :
    ∃ cap' w', (∀ ty, (Builtin.append_ #[t, tn] ty #[.slice (some ⟨g, 0, none⟩) i cap, .int kq m]).run P w = .ok (.slice (some ⟨w.heap.size, 0, none⟩) (i + m) cap') w') ∧ RowB enc k e w' w.heap.size cap' (l.take i) ∧ i + m ≤ cap' ∧ Below w.heap.size w w' ∧ w'.heap.size = w.heap.size + 1 := by
  have hpre := h.take hk i
  have hli : (l.take i).length = i := by rw [List.length_take]; omega
  have hrow := hpre.row hk
  have hcells := RowE.cells hk hk0 hrow
  have hmb : (i + m) * bytes ≤ 1000000 * 1000 := Nat.mul_le_mul hs hby
  have hmb2 : m * bytes ≤ 1000000 * 1000 := Nat.mul_le_mul (by omega) hby
  have holds : (Builtin.firstCells i0.size i (.slice (some ⟨g, 0, none⟩) i cap)).run P w.drew = .ok (cellsE enc (l.take i)).toArray w.drew := by
    rw [hz1]
    exact run_firstCells_some (P := P) w.drew k i ⟨g, 0, none⟩ i cap _ (by rw [cellsE_len enc k hk, hli]) hcells
  have hge := grownCap_ge w (i + m) cap e
  have hcm' : grownCap w (i + m) cap e ≤ maxLen := grownCap_le_maxLen w (i + m) cap e (by unfold maxLen; omega)
  refine ⟨_, _, fun ty => Lib.run_append_grow_zeros (P := P) w t tn ty e i0 z kq kn hu hun hi0 hz (some ⟨g, 0, none⟩) i cap (cellsE enc (l.take i)) holds m hm (by omega) hc (by omega) (by rw [hz2]; omega) (by rw [hz2]; exact growslice_fits (by omega) (by omega)), ⟨⟨_, heap_alloc_new w.drew _, ?_, ?_⟩, by omega, hcm'⟩, hge, ⟨rfl, rfl, rfl, by simp, fun j hj => heap_alloc_old w.drew _ hj⟩, by simp⟩
  · simp only [Array.size_append, size_zeroCells, List.size_toArray, cellsE_len enc k hk, hli, hzc, ← Nat.add_mul]
    congr 1
    omega
  · simp only [Array.toList_append, List.append_assoc]
    rw [show (l.take i).length * k = (cellsE enc (l.take i)).length by rw [cellsE_len enc k hk]]
    exact List.take_left
end
/-- A call of a Go function by its contract, in a region that draws its order. -/
theorem step_callK {P : Program} {w : World} {ops : Array Oper} {o : Oper} {a : Act} {K : Act → World → Prop} {Q : Exit → Act → World → Prop} {E : Prop} (hw : Region.wanted o (yielded ops a.tmps) = true) (f : FuncId) {fn : Func} {c : Code} (hf : P.funcs[f]? = some fn) (hname : (fn.name == "runtime.NumGoroutine") = false) (hb : fn.body = some c) (xs : Array Operand) (ts : Array TypeId)
    (ho : o.op = .call { callee := .value (.func f), args := xs, argTypes := ts }) (args : Array Value) (hargs : xs.map a.eval = args) {R : Ending → World → Prop} (hc : Calls P f args w R) (h : ∀ e w', R e w' → ∃ v, e = .returned v ∧ K (a.put o.dst v) w') : if Region.wanted o (yielded ops a.tmps) = true then Oper.wp P o a w K Q else E := by
  rw [if_pos hw]
  unfold Oper.wp
  have hrun : (execOp a.eval o).run P w = .ok (.enter f args) w := by
    subst hargs
    unfold execOp
    simp [ho, resolve, invoke, Act.eval, Deferred.ofValue, callFunc, hf, hb]
    simpa using hname
  rw [hrun, Oper.upon_enter]
  exact hc.mono fun e w' hR => by obtain ⟨v, rfl, hk⟩ := h e w' hR; exact hk
end Go.Proofs.YtejhbaeeaejcaaaGreat
