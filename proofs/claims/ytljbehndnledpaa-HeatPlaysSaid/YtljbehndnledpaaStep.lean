/- Steps that many walks share: a call by its contract in a region, bytes appended, slices that came in. Conditions: those of each theorem. -/
import Derived.Test.YtljbehndnledpaaHex
import Derived.Deep.RegionLaw
namespace Go.Proofs.Ytljbehndnledpaa
open Go.RowKit

/-- A call by its contract, in a region that draws its order. -/
theorem step_call {P : Program} {w : World} {ops : Array Oper} {o : Oper} {a : Act} {K : Act → World → Prop} {Q : Exit → Act → World → Prop} {E : Prop} (hw : Region.wanted o (yielded ops a.tmps) = true) (f : FuncId) {fn : Func} {c : Code} (hf : P.funcs[f]? = some fn) (hname : (fn.name == "runtime.NumGoroutine") = false) (hb : fn.body = some c) (xs : Array Operand) (ts : Array TypeId)
    (ho : o.op = .call { callee := .value (.func f), args := xs, argTypes := ts }) (args : Array Value) (hargs : xs.map a.eval = args) {R : Ending → World → Prop} (hc : Calls P f args w R) (h : ∀ e w', R e w' → ∃ v, e = .returned v ∧ K (a.put o.dst v) w') : if Region.wanted o (yielded ops a.tmps) = true then Oper.wp P o a w K Q else E := by
  rw [if_pos hw]
  unfold Oper.wp
  have hrun : (execOp a.eval o).run P w = .ok (.enter f args) w := by
    subst hargs
    unfold execOp
    simp [ho, resolve, invoke, Act.eval, Deferred.ofValue, callFunc, hf, hb]
    simpa using hname
  rw [hrun, Oper.upon_enter]
  exact hc.mono fun e w' hR => by obtain ⟨v, rfl, hk⟩ := h e w' hR; exact hk

theorem own_some {w : World} {base n : Nat} {e : TypeId} {size : Nat} {v : Value} {c : List Value} (h : w.ownsRow base e size v n c) (h0 : 0 < n) : ∃ g cap, v = .slice (some ⟨g, 0, none⟩) n cap := by
  rcases h.2 with ⟨rfl, h2⟩ | ⟨g, cap, cur, rfl, _⟩
  · omega
  · exact ⟨_, _, rfl⟩

/-- A byte of a slice that reads, where the walk looks for it. -/
theorem Bs.cell {w : World} {a : Option Addr} {n : Nat} {l : List UInt8} (h : Bs w a n l) (k : Nat) (hk : k < n) :
    ∃ (b o : Nat) (c : UInt8), a = some ⟨b, o, none⟩ ∧ l[k]? = some c ∧ w.cell? ⟨b, o + k, none⟩ = some (.int .u8 (c.toNat : Int)) ∧ b < w.heap.size := by
  have hl : l.length = n := by have := h.len; simpa using this
  obtain ⟨b, o, ha, hc⟩ := h.at (by omega)
  have hck := hc k hk
  rw [map_getD l k (by omega)] at hck
  exact ⟨b, o, l[k], ha, List.getElem?_eq_getElem (by omega), hck, World.block_lt_of_cell? w _ hck⟩

theorem Bs.length {w : World} {a : Option Addr} {n : Nat} {l : List UInt8} (h : Bs w a n l) : l.length = n := by have := h.len; simpa using this

theorem Bs.none' {w : World} (a : Option Addr) : Bs w a 0 [] := ⟨rfl, fun i x hx => by simp at hx⟩

/-- Bytes appended to a slice of the call's own out of a slice that reads. -/
theorem app_src {w : World} {base : Nat} {v : Value} {acc : List UInt8} (hown : w.ownsRow base 5 1 v acc.length (cellsOfB acc)) {b o m : Nat} (c : Nat) {l : List UInt8} (hs : Bs w (some ⟨b, o, none⟩) m l)
    (hlen : acc.length + m ≤ 100000000000) (hbase : base ≤ w.heap.size) :
    ∃ v' w', (Builtin.append_ #[37, 37] 37 #[v, .slice (some ⟨b, o, none⟩) m c]).run Try.prog w = .ok v' w' ∧ w'.ownsRow base 5 1 v' (acc ++ l).length (cellsOfB (acc ++ l)) ∧ w.grownBy w' v.ownBlock := by
  obtain ⟨i0, hi, hz0, hz1, hz2⟩ := info_parts info5
  have hl := hs.length
  obtain ⟨v', w', hr, h2, h3, _⟩ := run_append_own (P := Try.prog) w base 37 37 5 i0 (.int .u8 0) 1 1 Try.underlying37 hi hz0 hz1 hz2 rfl (by decide) v acc.length (cellsOfB acc) hown ⟨b, o, none⟩ m c (cellsOfB l) (by simp [cellsOfB, hl]) (fun j u hu => by
    have hj : j < l.length := by have := (List.getElem?_eq_some_iff.1 hu).1; simpa [cellsOfB] using this
    obtain ⟨b', o', ch, ha, hc, hcell, _⟩ := hs.cell j (by omega)
    cases ha
    rw [add_plain', hcell]
    simp only [cellsOfB, List.getElem?_map, hc, Option.map_some, Option.some.injEq] at hu
    rw [hu]) (fun u hu => by simp [cellsOfB] at hu; obtain ⟨x, _, rfl⟩ := hu; rfl) (by unfold maxLen; omega) (by omega) hbase
  refine ⟨v', w', hr, ?_, h3⟩
  rw [List.length_append, cellsOfB_app, hl]
  exact h2
  where add_plain' {b o n : Nat} : (⟨b, o, none⟩ : Addr).add n = ⟨b, o + n, none⟩ := by unfold Addr.add; split <;> simp_all

/-- One byte appended: its cell is laid in a new block ahead of it. -/
theorem app_byte {w : World} {base : Nat} {v : Value} {acc : List UInt8} (hown : w.ownsRow base 5 1 v acc.length (cellsOfB acc)) (z : Int) (c : UInt8) (hz : z = (c.toNat : Int))
    (hlen : acc.length + 1 ≤ 100000000000) (hbase : base ≤ w.heap.size) :
    ∃ v' w', (Builtin.append_ #[37, 37] 37 #[v, .slice (some ⟨w.heap.size, 0, none⟩) 1 1]).run Try.prog (w.alloc (.cells #[.int .u8 z] 5)) = .ok v' w' ∧ w'.ownsRow base 5 1 v' (acc ++ [c]).length (cellsOfB (acc ++ [c])) ∧ w.grownBy w' v.ownBlock := by
  obtain ⟨i0, hi, hz0, hz1, hz2⟩ := info_parts info5
  obtain ⟨v', w', hap, hown', hgr, _⟩ := app_new (P := Try.prog) Try.underlying37 hi hz0 hz1 hz2 rfl (by decide) hown 1 [.int .u8 z] rfl (by simp [Value.oneCell']) (by unfold maxLen; omega) (by omega) hbase
  refine ⟨v', w', hap, ?_, hgr⟩
  subst hz
  rw [List.length_append, cellsOfB_app]
  exact hown'

theorem clone_run {w : World} {b o n : Nat} (c : Nat) {l : List UInt8} (h : Bs w (some ⟨b, o, none⟩) n l) (hn : n ≤ 10000000000) :
    ∃ v' w', (Builtin.append_ #[37, 37] 37 #[.slice (some ⟨w.heap.size, 0, none⟩) 0 0, .slice (some ⟨b, o, none⟩) n c]).run Try.prog (w.alloc (.cells #[] 5)) = .ok v' w' ∧ w'.ownsRow w.heap.size 5 1 v' l.length (cellsOfB l) ∧ Below w.heap.size w w' := by
  have hb0 : Below w.heap.size w (w.alloc (.cells #[] 5)) := (Below.refl _ _).alloc (Nat.le_refl _) _
  have hown : (w.alloc (.cells #[] 5)).ownsRow w.heap.size 5 1 (.slice (some ⟨w.heap.size, 0, none⟩) 0 0) ([] : List UInt8).length (cellsOfB []) := World.ownsRow_made w #[] 0 (Nat.le_refl _) (Nat.zero_le _) (by simp)
  obtain ⟨v', w', hap, ho, hg⟩ := app_src hown c (h.below hb0 (Nat.le_refl _)) (by simp; omega) hb0.size
  rw [List.nil_append] at ho
  exact ⟨v', w', hap, ho, Below.own hb0 hown hg (Nat.le_refl _) hb0.size⟩

theorem bs_of_row {w : World} {a : Option Addr} {len cap : Nat} {zs : List Int} (h : IsRow .u8 w a len cap zs) : ∃ l, Bs w a len l := by
  have h1 := h.is
  have h2 := h.wf
  refine ⟨(zs.take len).map fun z => UInt8.ofNat z.toNat, ?_⟩
  have e : ((zs.take len).map fun z => UInt8.ofNat z.toNat).map (fun c => (c.toNat : Int)) = zs.take len := by
    rw [List.map_map]
    conv => rhs; rw [← List.map_id (zs.take len)]
    apply List.map_congr_left
    intro z hz
    have := h2 z hz
    simp [Lit.wf, IntKind.min, IntKind.max, IntKind.signed, IntKind.bits] at this
    simp only [Function.comp_apply, UInt8.toNat_ofNat', id_eq]
    omega
  unfold Bs
  rw [e]
  exact h1

theorem list_of {α : Type} {P : Nat → α → Prop} : ∀ {n : Nat}, (∀ i, i < n → ∃ q, P i q) → ∃ l : List α, l.length = n ∧ ∀ i x, l[i]? = some x → P i x
  | 0, _ => ⟨[], rfl, fun i x h => by simp at h⟩
  | n + 1, h => by
    obtain ⟨l, hl, hx⟩ := list_of (n := n) (fun i hi => h i (by omega))
    obtain ⟨q, hq⟩ := h n (by omega)
    refine ⟨l ++ [q], by simp [hl], fun i x hi => ?_⟩
    rw [List.getElem?_append] at hi
    split at hi
    · exact hx i x hi
    · have hin : i = n := by
        rcases Nat.lt_or_ge (i - l.length) 1 with h1 | h1
        · omega
        · rw [List.getElem?_eq_none (by simpa using h1)] at hi; cases hi
      subst hin
      rw [hl, Nat.sub_self] at hi
      simp at hi
      subst hi
      exact hq

theorem add_plain (b o n : Nat) : (⟨b, o, none⟩ : Addr).add n = ⟨b, o + n, none⟩ := by unfold Addr.add; split <;> simp_all

theorem addr_plain {w : World} {x : Addr} {v : Value} (h : w.cell? (x.add (0 * 2)) = some v) : ∃ b o, x = ⟨b, o, none⟩ := by
  obtain ⟨b, o, spot⟩ := x
  have hspot : spot = none := by simpa [Addr.add] using World.cell?_spot h
  exact ⟨b, o, by rw [hspot]⟩
end Go.Proofs.Ytljbehndnledpaa
