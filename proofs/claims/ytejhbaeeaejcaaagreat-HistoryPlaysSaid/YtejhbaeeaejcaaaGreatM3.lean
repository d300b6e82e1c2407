/- Blocks that are free, on a heap: container/heap at numbers in any order; of the row only what it holds is told. Conditions: those of each theorem. -/
import Derived.BigQuiet
import Derived.Deep.RegionLaw
import Derived.Test.YtejhbaeeaejcaaaGreatM2
import Derived.Laws.Rows
namespace Go.Proofs.YtejhbaeeaejcaaaGreat
open Go.RowKit

theorem mLen : (Tryz.prog.info? 122).map (fun i => (i.methods.find? (fun x => x.name == "Len")).map fun m => (m.path.toList, m.func)) = some (some ([], some (164, false))) := by kernel_rfl
theorem mLess : (Tryz.prog.info? 122).map (fun i => (i.methods.find? (fun x => x.name == "Less")).map fun m => (m.path.toList, m.func)) = some (some ([], some (165, false))) := by kernel_rfl
theorem mSwap : (Tryz.prog.info? 122).map (fun i => (i.methods.find? (fun x => x.name == "Swap")).map fun m => (m.path.toList, m.func)) = some (some ([], some (166, false))) := by kernel_rfl
theorem fnLen (v : Array Value) (w : World) : (callFunc 164 v).run Tryz.prog w = .ok (.enter 164 v) w := by kernel_rfl
theorem fnLess (v : Array Value) (w : World) : (callFunc 165 v).run Tryz.prog w = .ok (.enter 165 v) w := by kernel_rfl
theorem fnSwap (v : Array Value) (w : World) : (callFunc 166 v).run Tryz.prog w = .ok (.enter 166 v) w := by kernel_rfl
theorem fnPush (v : Array Value) (w : World) : (callFunc 168 v).run Tryz.prog w = .ok (.enter 168 v) w := by kernel_rfl
theorem fnPop (v : Array Value) (w : World) : (callFunc 167 v).run Tryz.prog w = .ok (.enter 167 v) w := by kernel_rfl
theorem method_of {P : Program} {t : TypeId} {name : String} {g : FuncId × Bool} (h : (P.info? t).map (fun i => (i.methods.find? (fun x => x.name == name)).map fun m => (m.path.toList, m.func)) = some (some ([], some g))) :
    ∃ i, P.info? t = some i ∧ ∃ m, i.methods.find? (fun x => x.name == name) = some m ∧ m.path.toList = [] ∧ m.func = some g := by
  cases hi : P.info? t with
  | none => rw [hi] at h; cases h
  | some i =>
    rw [hi] at h
    simp only [Option.map_some, Option.some.injEq] at h
    cases hm : i.methods.find? (fun x => x.name == name) with
    | none => rw [hm] at h; cases h
    | some m =>
      rw [hm] at h
      simp only [Option.map_some, Option.some.injEq, Prod.mk.injEq] at h
      exact ⟨i, rfl, m, hm, h.1, h.2⟩
theorem nilchk (P : Program) (t : TypeId) (a : Addr) (x y : ByteArray) (w : World) : (Builtin.ssaWrapNilChk_ #[t] t #[.pointer (some a), .string x, .string y]).run P w = .ok (.pointer (some a)) w := rfl
theorem run_method_row {P : Program} {t e : TypeId} {name : String} {f : FuncId} (h : (P.info? t).map (fun i => (i.methods.find? (fun x => x.name == name)).map fun m => (m.path.toList, m.func)) = some (some ([], some (f, false))))
    (ht : P.underlying t = some (.pointer e)) (he : ∀ w, (isAgg e).run P w = .ok false w) (b : Nat) (v : Value) (w : World) (k : Nat) (hc : w.cell? ⟨b, 0, none⟩ = some v) :
    (method (k + 1) t (.pointer (some ⟨b, 0, none⟩)) name).run P w = .ok (f, v) w := by
  obtain ⟨i, hi, m, hm, hp, hg⟩ := method_of h
  have hp' : m.path = #[] := by rw [← Array.toList_inj]; exact hp
  unfold method
  simp [run_typeInfo w hi, hm, hp', hg, follow, receiverAt, run_underlying ht, Place.get, nilchk, loadVar, he, asAddr, Result.andThen, strVal, hc]
theorem isAggRow (w : World) : (isAgg 114).run Tryz.prog w = .ok false w := by kernel_rfl
theorem inv_len (b : Nat) (v : Value) (w : World) (hc : w.cell? ⟨b, 0, none⟩ = some v) : (method 334 122 (.pointer (some ⟨b, 0, none⟩)) "Len").run Tryz.prog w = .ok (164, v) w := run_method_row mLen Tryz.underlying122 isAggRow b v w 333 hc
theorem inv_less (b : Nat) (v : Value) (w : World) (hc : w.cell? ⟨b, 0, none⟩ = some v) : (method 334 122 (.pointer (some ⟨b, 0, none⟩)) "Less").run Tryz.prog w = .ok (165, v) w := run_method_row mLess Tryz.underlying122 isAggRow b v w 333 hc
theorem inv_swap (b : Nat) (v : Value) (w : World) (hc : w.cell? ⟨b, 0, none⟩ = some v) : (method 334 122 (.pointer (some ⟨b, 0, none⟩)) "Swap").run Tryz.prog w = .ok (166, v) w := run_method_row mSwap Tryz.underlying122 isAggRow b v w 333 hc
theorem inv_push (b : Nat) (w : World) : (method 334 122 (.pointer (some ⟨b, 0, none⟩)) "Push").run Tryz.prog w = .ok (168, .pointer (some ⟨b, 0, none⟩)) w := by kernel_rfl
theorem inv_pop (b : Nat) (w : World) : (method 334 122 (.pointer (some ⟨b, 0, none⟩)) "Pop").run Tryz.prog w = .ok (167, .pointer (some ⟨b, 0, none⟩)) w := by kernel_rfl
theorem assertU (x : Int) (w : World) : (Instr.typeAssert (.iface 24 (.int .u32 x)) 20 24 false).run Tryz.prog w = .ok (.int .u32 x) w := by kernel_rfl
theorem infoU : (Tryz.prog.info? 24).map (fun i => (i.zero, i.size, i.bytes)) = some (some (.int .u32 0), 1, 4) := by kernel_rfl

/-- A list's row on the heap: the list's block, the row's block. -/
def HeapW (w : World) (p g c : Nat) (mv : Value) (F : List Nat) : Prop := w.heap[p]? = some (.cells #[.slice (some ⟨g, 0, none⟩) F.length c, mv] 116 (0, 0)) ∧ w.ownsRow 0 24 1 (.slice (some ⟨g, 0, none⟩) F.length c) F.length (F.map uV)
theorem HeapW.at {w : World} {p g c : Nat} {mv : Value} {F : List Nat} (h : HeapW w p g c mv F) {i : Nat} {x : Nat} (hi : F[i]? = some x) : w.cell? ⟨g, i, none⟩ = some (.int .u32 (x : Int)) := by
  have := h.2.cells (g := g) rfl i (uV x) (by rw [List.getElem?_map, hi]; rfl)
  rw [add_pl, Nat.zero_add] at this
  exact this
theorem HeapW.cell {w : World} {p g c : Nat} {mv : Value} {F : List Nat} (h : HeapW w p g c mv F) : w.cell? ⟨p, 0, none⟩ = some (.slice (some ⟨g, 0, none⟩) F.length c) := by simp [World.cell?, h.1]
theorem HeapW.ne {w : World} {p g c : Nat} {mv : Value} {F : List Nat} (h : HeapW w p g c mv F) : p ≠ g := by
  rintro rfl
  rcases h.2.2 with ⟨e, _⟩ | ⟨g', cap, cur, e, _, hh, _⟩
  · cases e
  · cases e
    rw [h.1] at hh
    cases hh
theorem HeapW.glt {w : World} {p g c : Nat} {mv : Value} {F : List Nat} (h : HeapW w p g c mv F) : g < w.heap.size := by
  rcases h.2.2 with ⟨e, _⟩ | ⟨g', cap, cur, e, _, hh, _⟩
  · cases e
  · cases e
    exact (Array.getElem?_eq_some_iff.1 hh).1
theorem grown_cell (w : World) (a : Addr) (x : Value) : w.grownBy (w.setCell a x) (some a.block) := ⟨rfl, rfl, rfl, by simp, fun i _ hi => heap_setCell_other _ _ _ _ (fun e => hi (by rw [e]))⟩
/-- Two places change theirs. -/
theorem HeapW.swap {w : World} {p g c : Nat} {mv : Value} {F : List Nat} (h : HeapW w p g c mv F) {i j x y : Nat} (hi : F[i]? = some x) (hj : F[j]? = some y) :
    HeapW ((w.setCell ⟨g, i, none⟩ (.int .u32 (y : Int))).setCell ⟨g, j, none⟩ (.int .u32 (x : Int))) p g c mv ((F.set i y).set j x) ∧ ((F.set i y).set j x).Perm F ∧ w.grownBy ((w.setCell ⟨g, i, none⟩ (.int .u32 (y : Int))).setCell ⟨g, j, none⟩ (.int .u32 (x : Int))) (some g) := by
  have hg := (grown_cell w ⟨g, i, none⟩ (.int .u32 (y : Int))).trans (grown_cell (w.setCell ⟨g, i, none⟩ (.int .u32 (y : Int))) ⟨g, j, none⟩ (.int .u32 (x : Int)))
  obtain ⟨hi1, rfl⟩ := List.getElem?_eq_some_iff.1 hi
  obtain ⟨hj1, rfl⟩ := List.getElem?_eq_some_iff.1 hj
  refine ⟨⟨?_, ?_⟩, List.set_set_perm hi1 hj1, hg⟩
  · rw [hg.block p (Array.getElem?_eq_some_iff.1 h.1).1 (fun e => h.ne (Option.some.inj e)), List.length_set, List.length_set]
    exact h.1
  · have h1 := ((h.2.stored i (.int .u32 (F[j] : Int))).1.stored j (.int .u32 (F[i] : Int))).1
    rw [List.length_set, List.length_set, List.map_set, List.map_set]
    exact h1

set_option maxRecDepth 100000 in
set_option maxHeartbeats 2000000 in
theorem rowLess_any {p g c : Nat} {mv : Value} {F : List Nat} {w : World} (h : HeapW w p g c mv F) (n i j : Nat) (hn : n = F.length) (hi : i < n) (hj : j < n) (_hk : n ≤ 1000000) :
    Calls Tryz.prog 165 #[.slice (some ⟨g, 0, none⟩) n c, .int .i64 (i : Int), .int .i64 (j : Int)] w fun e w' => (∃ b, e = .returned (.bool b)) ∧ ∃ q, w' = w.drewN q := by
  have c0 := h.at (List.getElem?_eq_getElem (show i < F.length by omega))
  have c1 := h.at (List.getElem?_eq_getElem (show j < F.length by omega))
  generalize F[i] = x at c0
  generalize F[j] = y at c1
  have hi0 : (0 : Int) ≤ (i : Int) := by omega
  have hi1 : (i : Int) < (n : Int) := by omega
  have hj0 : (0 : Int) ≤ (j : Int) := by omega
  have hj1 : (j : Int) < (n : Int) := by omega
  clear h hn
  go_enter Tryz.func165, Tryz.ntmps165
  go_wp2_with fail
  go_quiet (fail)
  all_goals
    go_wp2_with fail
    go_ret
    exact ⟨⟨_, rfl⟩, _, rfl⟩
set_option maxHeartbeats 1000000 in
theorem rowLen_any (a : Option Addr) (n c : Nat) (w : World) : Calls Tryz.prog 164 #[.slice a n c] w fun e w' => e = .returned (.int .i64 (n : Int)) ∧ w' = w := by
  go_enter Tryz.func164, Tryz.ntmps164
  go_wp2_with fail
  go_ret
  exact ⟨rfl, rfl⟩
set_option maxRecDepth 100000 in
set_option maxHeartbeats 4000000 in
theorem rowSwap_any {p g c : Nat} {mv : Value} {F : List Nat} {w : World} (h : HeapW w p g c mv F) (n i j : Nat) (hn : n = F.length) (hi : i < n) (hj : j < n) (_hk : n ≤ 1000000) :
    Calls Tryz.prog 166 #[.slice (some ⟨g, 0, none⟩) n c, .int .i64 (i : Int), .int .i64 (j : Int)] w fun e w' => e = .returned (.tuple #[]) ∧ ∃ F', F'.Perm F ∧ HeapW w' p g c mv F' ∧ w.grownBy w' (some g) := by
  obtain ⟨x, hx⟩ : ∃ x, F[i]? = some x := ⟨_, List.getElem?_eq_getElem (show i < F.length by omega)⟩
  obtain ⟨y, hy⟩ : ∃ y, F[j]? = some y := ⟨_, List.getElem?_eq_getElem (show j < F.length by omega)⟩
  have c0 := h.at hx
  have c1 := h.at hy
  have hi0 : (0 : Int) ≤ (i : Int) := by omega
  have hi1 : (i : Int) < (n : Int) := by omega
  have hj0 : (0 : Int) ≤ (j : Int) := by omega
  have hj1 : (j : Int) < (n : Int) := by omega
  have HF := Lib.hid (h.swap hx hy)
  obtain ⟨-, hcur⟩ := h.2
  rcases hcur with ⟨e, _⟩ | ⟨g', cap, cur, e, _, hh, hnc, hcm, hcs, _⟩
  · cases e
  cases e
  have f0 : w.frozen? ⟨g, i, none⟩ = false := by simp [World.frozen?, hh]
  have f1 : w.frozen? ⟨g, j, none⟩ = false := by simp [World.frozen?, hh]
  have f2 : (w.setCell ⟨g, i, none⟩ (.int .u32 (y : Int))).frozen? ⟨g, j, none⟩ = false := (World.frozen?_setCell _ _ _ _).trans f1
  have c2 : (w.setCell ⟨g, i, none⟩ (.int .u32 (y : Int))).cell? ⟨g, j, none⟩ = some (.int .u32 (y : Int)) := by
    have := (h.2.stored i (.int .u32 (y : Int))).1.cells (g := g) rfl j (uV y) (by
      rw [List.getElem?_set]
      split
      · rw [if_pos (by rw [List.length_map]; omega)]; rfl
      · rw [List.getElem?_map, hy]; rfl)
    rw [add_pl, Nat.zero_add] at this
    exact this
  clear h hn hx hy hh
  go_enter Tryz.func166, Tryz.ntmps166
  go_wp2_with fail
  go_region_law fail
  all_goals
    go_wp2_with fail
    go_end0
    exact ⟨rfl, _, HF.out.2.1, HF.out.1, ⟨HF.out.2.2.os, HF.out.2.2.tape, HF.out.2.2.output, HF.out.2.2.size, HF.out.2.2.block⟩⟩
theorem HeapW.drewN {w : World} {p g c : Nat} {mv : Value} {F : List Nat} (h : HeapW w p g c mv F) (q : Nat) : HeapW (w.drewN q) p g c mv F := by
  induction q generalizing w with
  | zero => exact h
  | succ q ih => exact ih h
theorem grown_drewN {w w' : World} {r : Option Nat} (h : w.grownBy w' r) (q : Nat) : w.grownBy (w'.drewN q) r := by
  induction q with
  | zero => exact h
  | succ q ih => exact ⟨ih.os, ih.tape, ih.output, ih.size, ih.block⟩
theorem perm_len {F F' : List Nat} (h : F'.Perm F) : F'.length = F.length := h.length_eq

set_option maxRecDepth 100000 in
set_option maxHeartbeats 4000000 in
theorem up_any {p g c : Nat} {mv : Value} {F : List Nat} {w : World} (h : HeapW w p g c mv F) (k : Nat) (hk : k < F.length) (hF : F.length ≤ 100000) :
    Calls Tryz.prog 114 #[.iface 122 (.pointer (some ⟨p, 0, none⟩)), .int .i64 (k : Int)] w fun e w' => e = .returned (.tuple #[]) ∧ ∃ F', F'.Perm F ∧ HeapW w' p g c mv F' ∧ w.grownBy w' (some g) := by
  have HH := Lib.hid h
  have hf := fnLess
  have hf2 := fnSwap
  clear h
  go_enter Tryz.func114, Tryz.ntmps114
  go_wp2_with fail
  go_loopw [1] (fun u1 wr => ∃ (j : Nat) (F' : List Nat), u1 = .int .i64 j ∧ j < F.length ∧ F'.Perm F ∧ HeapW wr p g c mv F' ∧ w.grownBy wr (some g)) (fun u1 _ => (intOf u1).toNat)
  case atStart => exact ⟨k, F, rfl, hk, List.Perm.refl _, HH.out, World.grownBy.refl _ _⟩
  case round =>
    obtain ⟨j, F', rfl, hj, hP, hW, hG⟩ := hrel
    have hlen := perm_len hP
    have HW := Lib.hid hW
    have HG := Lib.hid hG
    have HP := Lib.hid hP
    have hc := hW.cell
    rw [hlen] at hc
    have hv := inv_less p _ wr hc
    by_cases hj0 : j = 0
    · subst hj0
      clear hW hG hP hlen hv
      go_wp2_with fail
      go_end0
      exact ⟨rfl, F', HP.out, HW.out, HG.out⟩
    · have hq : (j - 1) / 2 < j := by omega
      have HL := Lib.hid (rowLess_any hW F.length j ((j - 1) / 2) hlen.symm hj (by omega) (by omega))
      have s1 : IntKind.i64.wrap ((j : Int) - 1) = (j : Int) - 1 := IntWalk.i64_in _ (by omega)
      have s2 : ((j : Int) - 1).tdiv 2 = (((j - 1) / 2 : Nat) : Int) := by
        rw [show (j : Int) - 1 = ((j - 1 : Nat) : Int) by omega]
        rfl
      have s3 : ((((j - 1) / 2 : Nat) : Int) == (j : Int)) = false := by rw [beq_eq_false_iff_ne]; omega
      have s4 : IntKind.i64.wrap (((j - 1) / 2 : Nat) : Int) = (((j - 1) / 2 : Nat) : Int) := IntWalk.i64_in _ (by omega)
      clear hW hG hP
      generalize (j - 1) / 2 = q at *
      generalize F.length = n at *
      go_wp2_with fail
      refine HL.out.mono ?_
      rintro e w2 ⟨⟨b, rfl⟩, q2, rfl⟩
      have HW2 := Lib.hid (HW.out.drewN q2)
      have HG2 := Lib.hid (grown_drewN HG.out q2)
      have hc2 := HW2.out.cell
      rw [hlen] at hc2
      have hv2 := inv_swap p _ _ hc2
      cases b
      · go_wp2_with fail
        go_end0
        exact ⟨rfl, F', HP.out, HW2.out, HG2.out⟩
      · have HS := Lib.hid (rowSwap_any HW2.out n q j hlen.symm (by omega) (by omega) (by omega))
        go_wp2_with fail
        refine HS.out.mono ?_
        rintro e w3 ⟨rfl, F2, hP2, hW3, hg3⟩
        have HR := Lib.hid (And.intro (hP2.trans HP.out) (And.intro hW3 (HG2.out.trans hg3)))
        clear hP2 hW3 hg3
        go_wp2_with fail
        go_roundw
        case rel => exact ⟨q, F2, rfl, by omega, HR.out.1, HR.out.2.1, HR.out.2.2⟩
        case measure => simp [intOf]; omega
end Go.Proofs.YtejhbaeeaejcaaaGreat
/- The stack of a way down a tree, and the walks of its New, Push and Pop. Conditions: those of each theorem. -/
namespace Go.Proofs.YtejhbaeeaejcaaaGreat
open Go.RowKit

/-- A stack's block. -/
structure StackW (w : World) (q : Nat) (l : List (Nat × Nat)) : Prop where
  obj : ∃ cs : Array Value, w.heap[q]? = some (.cells cs 163 (0, 0)) ∧ cs.size = 34 ∧ cs[32]? = some (.int .i64 (l.length : Int)) ∧ cs[33]? = some (.int .i64 16) ∧
    ∀ i x, l[i]? = some x → cs[i * 2]? = some (ptrV x.1) ∧ cs[i * 2 + 1]? = some (.int .i64 (x.2 : Int))
  len : l.length ≤ 16
theorem StackW.lt {w : World} {q : Nat} {l : List (Nat × Nat)} (h : StackW w q l) : q < w.heap.size := by
  obtain ⟨cs, e, -⟩ := h.obj
  exact (Array.getElem?_eq_some_iff.1 e).1
theorem StackW.heap {w w' : World} {q : Nat} {l : List (Nat × Nat)} (h : StackW w q l) (hq : w'.heap[q]? = w.heap[q]?) : StackW w' q l := by
  obtain ⟨cs, e, r⟩ := h.obj
  exact ⟨⟨cs, by rw [hq]; exact e, r⟩, h.len⟩
theorem StackW.reads {w : World} {q : Nat} {l : List (Nat × Nat)} (h : StackW w q l) : w.cell? ⟨q, 32, none⟩ = some (.int .i64 (l.length : Int)) ∧ w.cell? ⟨q, 33, none⟩ = some (.int .i64 16) ∧ (∀ j, w.frozen? ⟨q, j, none⟩ = false) ∧
    ∀ i x, l[i]? = some x → w.cell? ⟨q, i * 2, none⟩ = some (ptrV x.1) ∧ w.cell? ⟨q, i * 2 + 1, none⟩ = some (.int .i64 (x.2 : Int)) := by
  obtain ⟨cs, e, -, e1, e2, e3⟩ := h.obj
  have hc : ∀ j, w.cell? ⟨q, j, none⟩ = cs[j]? := fun j => by simp [World.cell?, e]
  exact ⟨by rw [hc, e1], by rw [hc, e2], fun j => by simp [World.frozen?, e], fun i x hx => by rw [hc, hc]; exact e3 i x hx⟩

theorem StackW.has {w : World} {q : Nat} {l : List (Nat × Nat)} (h : StackW w q l) (j : Nat) (hj : j < 34) : ∃ u, w.cell? ⟨q, j, none⟩ = some u := by
  obtain ⟨cs, e, hs, -⟩ := h.obj
  have hc : w.cell? ⟨q, j, none⟩ = cs[j]? := by simp [World.cell?, e]
  exact ⟨cs[j]'(by omega), by rw [hc]; exact Array.getElem?_eq_getElem _⟩
theorem StackW.put {w : World} {q : Nat} {l : List (Nat × Nat)} (h : StackW w q l) (hl : l.length < 16) (p i : Nat) :
    StackW (((w.setCell ⟨q, l.length * 2, none⟩ (ptrV p)).setCell ⟨q, l.length * 2 + 1, none⟩ (.int .i64 (i : Int))).setCell ⟨q, 32, none⟩ (.int .i64 ((l.length : Int) + 1))) q (l ++ [(p, i)]) ∧
      w.grownBy (((w.setCell ⟨q, l.length * 2, none⟩ (ptrV p)).setCell ⟨q, l.length * 2 + 1, none⟩ (.int .i64 (i : Int))).setCell ⟨q, 32, none⟩ (.int .i64 ((l.length : Int) + 1))) (some q) := by
  obtain ⟨cs, e, hs, e1, e2, e3⟩ := h.obj
  refine ⟨⟨⟨_, heap_setCell_same _ q 32 _ _ _ (heap_setCell_same _ q _ _ _ _ (heap_setCell_same w q _ cs _ _ e)), by simp [hs], ?_, ?_, fun j x hx => ?_⟩, by simp; omega⟩, rfl, rfl, rfl, by simp, fun k _ hk => ?_⟩
  · rw [Array.getElem?_setIfInBounds_self_of_lt (by simp [hs])]; simp
  · rw [Array.getElem?_setIfInBounds_ne (by omega), Array.getElem?_setIfInBounds_ne (by omega), Array.getElem?_setIfInBounds_ne (by omega)]; exact e2
  · have hj : j < (l ++ [(p, i)]).length := (List.getElem?_eq_some_iff.1 hx).1
    simp at hj
    by_cases hjl : j < l.length
    · rw [List.getElem?_append_left hjl] at hx
      obtain ⟨h1, h2⟩ := e3 j x hx
      refine ⟨?_, ?_⟩
      · rw [Array.getElem?_setIfInBounds_ne (show 32 ≠ j * 2 by omega), Array.getElem?_setIfInBounds_ne (show l.length * 2 + 1 ≠ j * 2 by omega), Array.getElem?_setIfInBounds_ne (show l.length * 2 ≠ j * 2 by omega)]
        exact h1
      · rw [Array.getElem?_setIfInBounds_ne (show 32 ≠ j * 2 + 1 by omega), Array.getElem?_setIfInBounds_ne (show l.length * 2 + 1 ≠ j * 2 + 1 by omega), Array.getElem?_setIfInBounds_ne (show l.length * 2 ≠ j * 2 + 1 by omega)]
        exact h2
    · have : j = l.length := by omega
      subst this
      rw [List.getElem?_append_right (Nat.le_refl _)] at hx
      simp at hx
      subst hx
      refine ⟨?_, ?_⟩
      · rw [Array.getElem?_setIfInBounds_ne (show 32 ≠ l.length * 2 by omega), Array.getElem?_setIfInBounds_ne (show l.length * 2 + 1 ≠ l.length * 2 by omega), Array.getElem?_setIfInBounds_self_of_lt (by omega)]
      · rw [Array.getElem?_setIfInBounds_ne (show 32 ≠ l.length * 2 + 1 by omega), Array.getElem?_setIfInBounds_self_of_lt (by rw [Array.size_setIfInBounds]; omega)]
  · have hk' : k ≠ q := fun e => hk (by rw [e])
    rw [heap_setCell_other _ _ k _ hk', heap_setCell_other _ _ k _ hk', heap_setCell_other _ _ k _ hk']

set_option maxRecDepth 100000 in
set_option maxHeartbeats 4000000 in
theorem stackNew_any (w : World) :
    Calls Tryz.prog 75 #[.int .i64 16] w fun e w' => e = .returned (ptrV w.heap.size) ∧ StackW w' w.heap.size [] ∧ Below w.heap.size w w' := by
  go_enter Tryz.func75, Tryz.ntmps75
  go_wp2_with fail
  go_ret
  refine ⟨rfl, ⟨⟨_, heap_alloc_new w _, ?_, ?_, ?_, ?_⟩, ?_⟩, (Below.refl _ _).alloc (Nat.le_refl _) _⟩
  · rfl
  · rfl
  · rfl
  · intro i x hx; simp at hx
  · simp

set_option maxRecDepth 100000 in
set_option maxHeartbeats 4000000 in
theorem stackPush_any {w : World} {q : Nat} {l : List (Nat × Nat)} (h : StackW w q l) (hl : l.length < 16) (p i : Nat) :
    Calls Tryz.prog 77 #[ptrV q, .agg #[ptrV p, .int .i64 (i : Int)]] w fun e w' => e = .returned (.bool true) ∧ StackW w' q (l ++ [(p, i)]) ∧ w.grownBy w' (some q) := by
  obtain ⟨c32, c33, cf, -⟩ := h.reads
  have hlt := h.lt
  have d32 := cell_past c32 (.cells #[ptrV p, .int .i64 (i : Int)] 129)
  have d33 := cell_past c33 (.cells #[ptrV p, .int .i64 (i : Int)] 129)
  have x0 : (w.alloc (.cells #[ptrV p, .int .i64 (i : Int)] 129)).cell? ⟨w.heap.size, 0, none⟩ = some (ptrV p) := by simp
  have x1 : (w.alloc (.cells #[ptrV p, .int .i64 (i : Int)] 129)).cell? ⟨w.heap.size, 1, none⟩ = some (.int .i64 (i : Int)) := by simp
  have hf : ∀ j, (w.alloc (.cells #[ptrV p, .int .i64 (i : Int)] 129)).frozen? ⟨q, j, none⟩ = false := fun j => by
    have := (h.heap (w' := w.alloc (.cells #[ptrV p, .int .i64 (i : Int)] 129)) (Below.heap_alloc _ _ _ hlt)).reads.2.2.1 j
    exact this
  have hln : (l.length : Int) < 16 := by omega
  have hne : ((l.length : Int) == 16) = false := by rw [beq_eq_false_iff_ne]; omega
  unfold ptrV at *
  generalize hwa : w.alloc (.cells #[.pointer (some ⟨p, 0, none⟩), .int .i64 (i : Int)] 129) = wa at *
  have hhw : StackW wa q l := h.heap (by rw [← hwa]; exact Below.heap_alloc _ _ _ hlt)
  have hga : Below w.heap.size w wa := by rw [← hwa]; exact (Below.refl _ _).alloc (Nat.le_refl _) _
  obtain ⟨u0, y0⟩ := hhw.has (l.length * 2) (by omega)
  obtain ⟨u1, y1⟩ := hhw.has (l.length * 2 + 1) (by omega)
  have hw1 : IntKind.i64.wrap ((l.length : Int) + 1) = (l.length : Int) + 1 := IntWalk.i64_in _ (by omega)
  have hput := hhw.put hl p i
  unfold ptrV at hput
  have HP := Lib.hid hput
  have hb16 : l.length * 2 ≠ 32 := by omega
  have hb17 : l.length * 2 + 1 ≠ 32 := by omega
  clear h c32 c33 cf hhw hput
  go_enter Tryz.func77, Tryz.ntmps77
  go_wp2_with fail
  go_region
  all_goals
    go_wp2_with fail
    go_region
    all_goals
      go_wp2_with fail
      go_ret
      refine ⟨rfl, HP.out.1.heap rfl, ?_⟩
      have hg := HP.out.2
      exact ⟨hg.os.trans hga.os, hg.tape.trans hga.tape, hg.output.trans hga.output, Nat.le_trans hga.size hg.size, fun k hk hne => (hg.block k (Nat.lt_of_lt_of_le hk hga.size) hne).trans (hga.block k hk)⟩

theorem StackW.pre {w : World} {q : Nat} {l : List (Nat × Nat)} {x : Nat × Nat} (h : StackW w q (l ++ [x])) (o1 o2 : Obj) :
    ((((w.setCell ⟨q, 32, none⟩ (.int .i64 (l.length : Int))).alloc o1).alloc o2).cell? ⟨q, 32, none⟩ = some (.int .i64 (l.length : Int)) ∧ (((w.setCell ⟨q, 32, none⟩ (.int .i64 (l.length : Int))).alloc o1).alloc o2).cell? ⟨q, l.length * 2, none⟩ = some (ptrV x.1) ∧
      (((w.setCell ⟨q, 32, none⟩ (.int .i64 (l.length : Int))).alloc o1).alloc o2).cell? ⟨q, l.length * 2 + 1, none⟩ = some (.int .i64 (x.2 : Int))) ∧ ∀ j, (((w.setCell ⟨q, 32, none⟩ (.int .i64 (l.length : Int))).alloc o1).alloc o2).frozen? ⟨q, j, none⟩ = false := by
  obtain ⟨cs, e, hs, e1, e2, e3⟩ := h.obj
  have hl : l.length < 16 := by have := h.len; simp at this; omega
  have hq := h.lt
  have hx : (l ++ [x])[l.length]? = some x := by rw [List.getElem?_append_right (Nat.le_refl _)]; simp
  obtain ⟨h1, h2⟩ := e3 l.length x hx
  have hh : (((w.setCell ⟨q, 32, none⟩ (.int .i64 (l.length : Int))).alloc o1).alloc o2).heap[q]? = some (.cells (cs.setIfInBounds 32 (.int .i64 (l.length : Int))) 163 (0, 0)) := by
    rw [Below.heap_alloc _ _ _ (by simp; omega), Below.heap_alloc _ _ _ (by simpa using hq)]
    exact heap_setCell_same w q 32 cs _ _ e
  have hc : ∀ j, (((w.setCell ⟨q, 32, none⟩ (.int .i64 (l.length : Int))).alloc o1).alloc o2).cell? ⟨q, j, none⟩ = (cs.setIfInBounds 32 (.int .i64 (l.length : Int)))[j]? := fun j => by simp [World.cell?, hh]
  refine ⟨⟨?_, ?_, ?_⟩, fun j => by simp [World.frozen?, hh]⟩
  · rw [hc, Array.getElem?_setIfInBounds_self_of_lt (by omega)]
  · rw [hc, Array.getElem?_setIfInBounds_ne (by omega)]; exact h1
  · rw [hc, Array.getElem?_setIfInBounds_ne (by omega)]; exact h2

theorem StackW.post {w : World} {q : Nat} {l : List (Nat × Nat)} {x : Nat × Nat} (h : StackW w q (l ++ [x])) (o1 o2 : Obj) :
    ∃ cs5 : Array Value, (((w.setCell ⟨q, 32, none⟩ (.int .i64 (l.length : Int))).alloc o1).alloc o2).heap[q]? = some (.cells cs5 163 (0, 0)) ∧ cs5.size = 34 ∧
      (∀ W' : World, W'.heap[q]? = some (.cells cs5 163 (0, 0)) → W'.cell? ⟨q, 32, none⟩ = some (.int .i64 (l.length : Int)) ∧ (∃ u, W'.cell? ⟨q, l.length * 2, none⟩ = some u) ∧ (∃ u, W'.cell? ⟨q, l.length * 2 + 1, none⟩ = some u) ∧ ∀ j, W'.frozen? ⟨q, j, none⟩ = false) ∧
      ∀ W' : World, W'.heap[q]? = some (.cells ((cs5.setIfInBounds (l.length * 2) (.pointer none)).setIfInBounds (l.length * 2 + 1) (.int .i64 0)) 163 (0, 0)) → StackW W' q l := by
  obtain ⟨cs, e, hs, e1, e2, e3⟩ := h.obj
  have hl : l.length < 16 := by have := h.len; simp at this; omega
  have hq := h.lt
  refine ⟨cs.setIfInBounds 32 (.int .i64 (l.length : Int)), ?_, by simp [hs], fun W' hW' => ?_, fun W' hW' => ⟨⟨_, hW', by simp [hs], ?_, ?_, fun j y hy => ?_⟩, by omega⟩⟩
  · rw [Below.heap_alloc _ _ _ (by simp; omega), Below.heap_alloc _ _ _ (by simpa using hq)]
    exact heap_setCell_same w q 32 cs _ _ e
  · have hc : ∀ j, W'.cell? ⟨q, j, none⟩ = (cs.setIfInBounds 32 (.int .i64 (l.length : Int)))[j]? := fun j => by simp [World.cell?, hW']
    refine ⟨?_, ?_, ?_, fun j => by simp [World.frozen?, hW']⟩
    · rw [hc, Array.getElem?_setIfInBounds_self_of_lt (by omega)]
    · exact ⟨_, (hc _).trans (Array.getElem?_eq_getElem (by rw [Array.size_setIfInBounds]; omega))⟩
    · exact ⟨_, (hc _).trans (Array.getElem?_eq_getElem (by rw [Array.size_setIfInBounds]; omega))⟩
  · rw [Array.getElem?_setIfInBounds_ne (by omega), Array.getElem?_setIfInBounds_ne (by omega), Array.getElem?_setIfInBounds_self_of_lt (by omega)]
  · rw [Array.getElem?_setIfInBounds_ne (by omega), Array.getElem?_setIfInBounds_ne (by omega), Array.getElem?_setIfInBounds_ne (by omega)]; exact e2
  · have hj : j < l.length := (List.getElem?_eq_some_iff.1 hy).1
    obtain ⟨h1, h2⟩ := e3 j y (by rw [List.getElem?_append_left hj]; exact hy)
    refine ⟨?_, ?_⟩
    · rw [Array.getElem?_setIfInBounds_ne (show l.length * 2 + 1 ≠ j * 2 by omega), Array.getElem?_setIfInBounds_ne (show l.length * 2 ≠ j * 2 by omega), Array.getElem?_setIfInBounds_ne (show 32 ≠ j * 2 by omega)]
      exact h1
    · rw [Array.getElem?_setIfInBounds_ne (show l.length * 2 + 1 ≠ j * 2 + 1 by omega), Array.getElem?_setIfInBounds_ne (show l.length * 2 ≠ j * 2 + 1 by omega), Array.getElem?_setIfInBounds_ne (show 32 ≠ j * 2 + 1 by omega)]
      exact h2

theorem out_two {W : World} {B : Nat} {x0 x1 v0 v1 : Value} {t : TypeId} (h : W.heap[B]? = some (.cells #[x0, x1] t (0, 0))) :
    ((W.setCell ⟨B, 0, none⟩ v0).setCell ⟨B, 1, none⟩ v1).cell? ⟨B, 0, none⟩ = some v0 ∧ ((W.setCell ⟨B, 0, none⟩ v0).setCell ⟨B, 1, none⟩ v1).cell? ⟨B, 1, none⟩ = some v1 := by
  have := heap_setCell_same _ B 1 _ _ v1 (heap_setCell_same W B 0 _ _ v0 h)
  constructor <;> simp [World.cell?, this]
theorem pop_results (tmps : Array Value) (B : Nat) (e v0 v1 : Value) (W : World) (h2 : tmps[2]? = some (.pointer (some ⟨B, 0, none⟩))) (h3 : tmps[3]? = some e) (q0 : W.cell? ⟨B, 0, none⟩ = some v0) (q1 : W.cell? ⟨B, 1, none⟩ = some v1) :
    (results Tryz.f69 tmps).run Tryz.prog W = .ok (.tuple #[.agg #[v0, v1], e]) W := by
  simp [results, Tryz.results69, go_sem, h2, h3, q0, q1]

set_option maxRecDepth 100000 in
set_option maxHeartbeats 4000000 in
theorem stackPop_none {w : World} {q : Nat} (h : StackW w q []) :
    Calls Tryz.prog 69 #[ptrV q] w fun e w' => e = .returned (.tuple #[.agg #[.pointer none, .int .i64 0], .bool false]) ∧ Below w.heap.size w w' := by
  obtain ⟨c32, c33, cf, -⟩ := h.reads
  have d32 := cell_past (cell_past c32 (.cells #[.pointer none, .int .i64 0] 129)) (.cells #[.pointer none, .int .i64 0] 129)
  have hb : Below w.heap.size w ((w.alloc (.cells #[.pointer none, .int .i64 0] 129)).alloc (.cells #[.pointer none, .int .i64 0] 129)) := ((Below.refl _ _).alloc (Nat.le_refl _) _).alloc (by simp) _
  have y0 : (w.alloc (.cells #[.pointer none, .int .i64 0] 129)).cell? ⟨w.heap.size, 0, none⟩ = some (.pointer none) := by simp
  have y1 : (w.alloc (.cells #[.pointer none, .int .i64 0] 129)).cell? ⟨w.heap.size, 1, none⟩ = some (.int .i64 0) := by simp
  have Y := Lib.hid (And.intro (cell_past y0 (.cells #[.pointer none, .int .i64 0] 129)) (cell_past y1 (.cells #[.pointer none, .int .i64 0] 129)))
  unfold ptrV
  simp only [List.length_nil, Int.natCast_zero] at d32
  clear y0 y1
  clear h c32 c33 cf
  go_enter Tryz.func69, Tryz.ntmps69
  go_wp2_with fail
  refine bodyPost_ret (pop_results _ w.heap.size _ _ _ _ rfl rfl Y.out.1 Y.out.2) rfl ?_
  exact ⟨rfl, hb⟩

set_option maxRecDepth 100000 in
set_option maxHeartbeats 4000000 in
theorem stackPop_some {w : World} {q : Nat} {l : List (Nat × Nat)} {x : Nat × Nat} (h : StackW w q (l ++ [x])) :
    Calls Tryz.prog 69 #[ptrV q] w fun e w' => e = .returned (.tuple #[.agg #[ptrV x.1, .int .i64 (x.2 : Int)], .bool true]) ∧ StackW w' q l ∧ w.grownBy w' (some q) := by
  have hb : Below w.heap.size w ((w.alloc (.cells #[.pointer none, .int .i64 0] 129)).alloc (.cells #[.pointer none, .int .i64 0] 129)) := ((Below.refl _ _).alloc (Nat.le_refl _) _).alloc (by simp) _
  have hq := h.lt
  have hl : l.length < 16 := by have := h.len; simp at this; omega
  have h2 : StackW ((w.alloc (.cells #[.pointer none, .int .i64 0] 129)).alloc (.cells #[.pointer none, .int .i64 0] 129)) q (l ++ [x]) := h.heap (hb.block q hq)
  obtain ⟨d32, d33, df, dx⟩ := h2.reads
  obtain ⟨x0, x1⟩ := dx l.length x (by rw [List.getElem?_append_right (Nat.le_refl _)]; simp)
  have hlen : ((l ++ [x]).length : Int) = (l.length : Int) + 1 := by simp
  rw [hlen] at d32
  obtain ⟨c32, c33, cf, cx⟩ := h.reads
  obtain ⟨z0, z1⟩ := cx l.length x (by rw [List.getElem?_append_right (Nat.le_refl _)]; simp)
  rw [hlen] at c32
  have hw1 : IntKind.i64.wrap ((l.length : Int) + 1 - 1) = (l.length : Int) := by rw [IntWalk.i64_in _ (by omega)]; omega
  have hw2 : IntKind.i64.wrap (l.length : Int) = (l.length : Int) := IntWalk.i64_in _ (by omega)
  have hne : ((l.length : Int) + 1 == 0) = false := by rw [beq_eq_false_iff_ne]; omega
  have hl16 : (l.length : Int) < 16 := by omega
  have hl0 : (0 : Int) ≤ (l.length : Int) := by omega
  have HPO := Lib.hid (h.post (.cells #[.pointer none, .int .i64 0] 129) (.cells #[.pointer none, .int .i64 0] 129))
  have HPR := Lib.hid (h.pre (.cells #[.pointer none, .int .i64 0] 129) (.cells #[.pointer none, .int .i64 0] 129))
  unfold ptrV at x0 z0 HPR ⊢
  clear h h2 dx cx hlen
  go_enter Tryz.func69, Tryz.ntmps69
  go_wp2_with fail
  obtain ⟨⟨p32, p0, p1⟩, pf⟩ := HPR.out
  obtain ⟨cs5, hcs, hsz5, hrd, hend⟩ := HPO.out
  have hWs : (((w.setCell ⟨q, 32, none⟩ (.int .i64 (l.length : Int))).alloc (.cells #[.pointer none, .int .i64 0] 129)).alloc (.cells #[.pointer none, .int .i64 0] 129)).heap.size = w.heap.size + 1 + 1 := by simp
  have ho0 : (((w.setCell ⟨q, 32, none⟩ (.int .i64 (l.length : Int))).alloc (.cells #[.pointer none, .int .i64 0] 129)).alloc (.cells #[.pointer none, .int .i64 0] 129)).heap[w.heap.size]? = some (.cells #[.pointer none, .int .i64 0] 129) := by
    rw [Below.heap_alloc _ _ _ (by simp)]
    have := heap_alloc_new (w.setCell ⟨q, 32, none⟩ (.int .i64 (l.length : Int))) (.cells #[.pointer none, .int .i64 0] 129)
    simpa using this
  have ho1 : (((w.setCell ⟨q, 32, none⟩ (.int .i64 (l.length : Int))).alloc (.cells #[.pointer none, .int .i64 0] 129)).alloc (.cells #[.pointer none, .int .i64 0] 129)).heap[w.heap.size + 1]? = some (.cells #[.pointer none, .int .i64 0] 129) := by
    have := heap_alloc_new ((w.setCell ⟨q, 32, none⟩ (.int .i64 (l.length : Int))).alloc (.cells #[.pointer none, .int .i64 0] 129)) (.cells #[.pointer none, .int .i64 0] 129)
    simpa using this
  have hgr : w.grownBy (((w.setCell ⟨q, 32, none⟩ (.int .i64 (l.length : Int))).alloc (.cells #[.pointer none, .int .i64 0] 129)).alloc (.cells #[.pointer none, .int .i64 0] 129)) (some q) := ⟨rfl, rfl, rfl, by simp; omega, fun k hk hne => by
    rw [Below.heap_alloc _ _ _ (by simp; omega), Below.heap_alloc _ _ _ (by simpa using hk), heap_setCell_other _ _ k _ (fun e => hne (by rw [e]))]⟩
  clear c32 c33 cf z0 z1 d32 d33 df x0 x1
  generalize hWg : ((w.setCell ⟨q, 32, none⟩ (.int .i64 (l.length : Int))).alloc (.cells #[.pointer none, .int .i64 0] 129)).alloc (.cells #[.pointer none, .int .i64 0] 129) = W5 at *
  have r32 := cell_past p32 (.cells #[.pointer none, .int .i64 0] 129)
  have r0 := cell_past p0 (.cells #[.pointer none, .int .i64 0] 129)
  have r1 := cell_past p1 (.cells #[.pointer none, .int .i64 0] 129)
  have hq5 : q < W5.heap.size := by rw [hWs]; omega
  have HE := Lib.hid hend
  have HRD := Lib.hid hrd
  clear hend hrd
  go_region
  all_goals
    go_wp2_with fail
    have hW6 : (W5.alloc (.cells #[.pointer (some ⟨x.1, 0, none⟩), .int .i64 (x.2 : Int)] 129)).drew.heap.size = w.heap.size + 1 + 1 + 1 := by show (W5.alloc (.cells #[.pointer (some ⟨x.1, 0, none⟩), .int .i64 (x.2 : Int)] 129)).heap.size = _; simp [hWs]
    have s32 := cell_past p32 (.cells #[.pointer (some ⟨x.1, 0, none⟩), .int .i64 (x.2 : Int)] 129)
    have s0 := cell_past p0 (.cells #[.pointer (some ⟨x.1, 0, none⟩), .int .i64 (x.2 : Int)] 129)
    have s1 := cell_past p1 (.cells #[.pointer (some ⟨x.1, 0, none⟩), .int .i64 (x.2 : Int)] 129)
    have sq : (W5.alloc (.cells #[.pointer (some ⟨x.1, 0, none⟩), .int .i64 (x.2 : Int)] 129)).drew.heap[q]? = some (.cells cs5 163 (0, 0)) := by
      show (W5.alloc (.cells #[.pointer (some ⟨x.1, 0, none⟩), .int .i64 (x.2 : Int)] 129)).heap[q]? = _
      rw [Below.heap_alloc _ _ _ hq5]; exact hcs
    have so0 : (W5.alloc (.cells #[.pointer (some ⟨x.1, 0, none⟩), .int .i64 (x.2 : Int)] 129)).drew.heap[w.heap.size]? = some (.cells #[.pointer none, .int .i64 0] 129) := by
      show (W5.alloc (.cells #[.pointer (some ⟨x.1, 0, none⟩), .int .i64 (x.2 : Int)] 129)).heap[w.heap.size]? = _
      rw [Below.heap_alloc _ _ _ (by omega)]; exact ho0
    have so1 : (W5.alloc (.cells #[.pointer (some ⟨x.1, 0, none⟩), .int .i64 (x.2 : Int)] 129)).drew.heap[w.heap.size + 1]? = some (.cells #[.pointer none, .int .i64 0] 129) := by
      show (W5.alloc (.cells #[.pointer (some ⟨x.1, 0, none⟩), .int .i64 (x.2 : Int)] 129)).heap[w.heap.size + 1]? = _
      rw [Below.heap_alloc _ _ _ (by omega)]; exact ho1
    have so2 : (W5.alloc (.cells #[.pointer (some ⟨x.1, 0, none⟩), .int .i64 (x.2 : Int)] 129)).drew.heap[w.heap.size + 1 + 1]? = some (.cells #[.pointer (some ⟨x.1, 0, none⟩), .int .i64 (x.2 : Int)] 129) := by
      have := heap_alloc_new W5 (.cells #[.pointer (some ⟨x.1, 0, none⟩), .int .i64 (x.2 : Int)] 129)
      rw [hWs] at this
      exact this
    have hg6 : w.grownBy (W5.alloc (.cells #[.pointer (some ⟨x.1, 0, none⟩), .int .i64 (x.2 : Int)] 129)).drew (some q) := ⟨hgr.os, hgr.tape, hgr.output, by rw [hW6]; omega, fun k hk hne => by
      show (W5.alloc (.cells #[.pointer (some ⟨x.1, 0, none⟩), .int .i64 (x.2 : Int)] 129)).heap[k]? = _
      rw [Below.heap_alloc _ _ _ (by omega)]; exact hgr.block k hk hne⟩
    clear s32 s0 s1 r32 r0 r1 p32 p0 p1 pf
    generalize (W5.alloc (.cells #[.pointer (some ⟨x.1, 0, none⟩), .int .i64 (x.2 : Int)] 129)).drew = W6 at *
    obtain ⟨t32, ⟨u0, t0⟩, ⟨u1, t1⟩, tf⟩ := HRD.out W6 sq
    have v0 : W6.cell? ⟨w.heap.size, 0, none⟩ = some (.pointer none) := by simp [World.cell?, so0]
    have v1 : W6.cell? ⟨w.heap.size, 1, none⟩ = some (.int .i64 0) := by simp [World.cell?, so0]
    have vf : ∀ j, W6.frozen? ⟨w.heap.size, j, none⟩ = false := fun j => by simp [World.frozen?, so0]
    have n0 : W6.cell? ⟨w.heap.size + 1, 0, none⟩ = some (.pointer none) := by simp [World.cell?, so1]
    have n1 : W6.cell? ⟨w.heap.size + 1, 1, none⟩ = some (.int .i64 0) := by simp [World.cell?, so1]
    have y0 : W6.cell? ⟨w.heap.size + 1 + 1, 0, none⟩ = some (.pointer (some ⟨x.1, 0, none⟩)) := by simp [World.cell?, so2]
    have y1 : W6.cell? ⟨w.heap.size + 1 + 1, 1, none⟩ = some (.int .i64 (x.2 : Int)) := by simp [World.cell?, so2]
    have hqs : ¬ q = w.heap.size := by omega
    have hqs1 : ¬ q = w.heap.size + 1 := by omega
    have hqs2 : ¬ q = w.heap.size + 1 + 1 := by omega
    have HSQ := Lib.hid sq
    have HO0 := Lib.hid so0
    have HG6 := Lib.hid hg6
    clear sq so0 so1 so2 hg6 HPR HPO
    go_region
    all_goals
      go_wp2_with fail
      have hv := out_two (v0 := .pointer (some ⟨x.1, 0, none⟩)) (v1 := .int .i64 (x.2 : Int)) (show ((W6.setCell ⟨q, l.length * 2, none⟩ (.pointer none)).setCell ⟨q, l.length * 2 + 1, none⟩ (.int .i64 0)).heap[w.heap.size]? = _ from by rw [heap_setCell_other _ _ _ _ (fun e => hqs e.symm), heap_setCell_other _ _ _ _ (fun e => hqs e.symm)]; exact HO0.out)
      refine bodyPost_ret (pop_results _ w.heap.size _ _ _ _ rfl rfl hv.1 hv.2) rfl ?_
      refine ⟨rfl, HE.out _ ?_, ?_⟩
      · show ((((W6.setCell ⟨q, l.length * 2, none⟩ (.pointer none)).setCell ⟨q, l.length * 2 + 1, none⟩ (.int .i64 0)).setCell ⟨w.heap.size, 0, none⟩ (.pointer (some ⟨x.1, 0, none⟩))).setCell ⟨w.heap.size, 1, none⟩ (.int .i64 (x.2 : Int))).heap[q]? = _
        rw [heap_setCell_other _ _ _ _ hqs, heap_setCell_other _ _ _ _ hqs]
        exact heap_setCell_same _ q _ _ _ _ (heap_setCell_same W6 q _ _ _ _ HSQ.out)
      · have hg := HG6.out
        refine ⟨hg.os, hg.tape, hg.output, by simp [hW6]; omega, fun k hk hne => ?_⟩
        have hkq : k ≠ q := fun e => hne (by rw [e])
        show ((((W6.setCell ⟨q, l.length * 2, none⟩ (.pointer none)).setCell ⟨q, l.length * 2 + 1, none⟩ (.int .i64 0)).setCell ⟨w.heap.size, 0, none⟩ (.pointer (some ⟨x.1, 0, none⟩))).setCell ⟨w.heap.size, 1, none⟩ (.int .i64 (x.2 : Int))).heap[k]? = _
        rw [heap_setCell_other _ _ k _ (by show k ≠ w.heap.size; omega), heap_setCell_other _ _ k _ (by show k ≠ w.heap.size; omega), heap_setCell_other _ _ k _ hkq, heap_setCell_other _ _ k _ hkq]
        exact hg.block k hk hne
end Go.Proofs.YtejhbaeeaejcaaaGreat
/- The way down a tree: the walk of tree.Tree.way. Conditions: those of each theorem. -/
namespace Go.Proofs.YtejhbaeeaejcaaaGreat
open Go.RowKit

/-- A tree's own block: its root, and how many entries it has. -/
def TreeAt (w : World) (pt : Nat) (root : Option Nat) (n : Nat) : Prop := w.heap[pt]? = some (.cells #[.pointer (root.map fun p => ⟨p, 0, none⟩), .int .i64 (n : Int)] 93 (0, 0))
/-- The way down to the leaf of a key: the nodes above it, each with the child that one takes. -/
def WayT (w : World) (S : Nat → Prop) (k : Nat) : {d : Nat} → Nat → Tr d → List (Nat × Nat) → Nat → Tr 0 → Prop
  | 0, p, t, path, pl, lt => path = [] ∧ pl = p ∧ lt = t ∧ NodeW w S p t
  | _ + 1, p, t, path, pl, lt => NodeW w S p t ∧ ∃ q c path', path = (p, kidAt (keysT t) k) :: path' ∧ (kidsT t)[kidAt (keysT t) k]? = some c ∧ NodeW w S q c ∧ WayT w S k q c path' pl lt

set_option maxRecDepth 100000 in
set_option maxHeartbeats 8000000 in
theorem way_none {w : World} {pt n : Nat} (h : TreeAt w pt none n) (k : Nat) :
    Calls Tryz.prog 53 #[ptrV pt, keyV k] w fun e w' => ∃ q, e = .returned (.tuple #[ptrV q, .pointer none]) ∧ StackW w' q [] ∧ w.heap.size ≤ q ∧ Below w.heap.size w w' := by
  have hb0 : Below w.heap.size w (w.alloc (.cells #[.int .u16 (kVol k : Int), .int .u32 (kBlk k : Int), .int .u64 (kSeq k : Int)] 27)) := (Below.refl _ _).alloc (Nat.le_refl _) _
  have HN := Lib.hid (stackNew_any (w.alloc (.cells #[.int .u16 (kVol k : Int), .int .u32 (kBlk k : Int), .int .u64 (kSeq k : Int)] 27)))
  have hpt : pt < w.heap.size := (Array.getElem?_eq_some_iff.1 h).1
  unfold keyV ptrV at *
  go_enter Tryz.func53, Tryz.ntmps53
  go_wp2_with fail
  refine HN.out.mono ?_
  rintro e w2 ⟨rfl, hst, hb2⟩
  have hb := hb0.trans (hb2.mono hb0.size)
  have hr : w2.cell? ⟨pt, 0, none⟩ = some (.pointer none) := by
    have e : w2.heap[pt]? = some (.cells #[.pointer none, .int .i64 (n : Int)] 93 (0, 0)) := by rw [hb.block pt hpt]; exact h
    simp [World.cell?, e]
  have HS := Lib.hid hst
  clear hst HN h
  go_wp2_with fail
  refine wp_loop_rounds 1 ?_
  rw [rounds_succ]
  go_wp2_with fail
  go_ret2
  exact ⟨w.heap.size + 1, rfl, by simpa using HS.out, by omega, hb⟩

theorem WayT.same {S : Nat → Prop} {w w' : World} (hs : Same S w w') {k : Nat} : ∀ {d : Nat} {p : Nat} {t : Tr d} {path : List (Nat × Nat)} {pl : Nat} {lt : Tr 0}, WayT w S k p t path pl lt → WayT w' S k p t path pl lt
  | 0, _, _, _, _, _, h => ⟨h.1, h.2.1, h.2.2.1, h.2.2.2.same hs⟩
  | _ + 1, _, _, _, _, _, ⟨h0, q, c, path', h1, h2, h3, h4⟩ => ⟨h0.same hs, q, c, path', h1, h2, h3.same hs, WayT.same hs h4⟩
/-- Where one is on the way: the nodes behind, and the node at hand. -/
def OnWay (w : World) (S : Nat → Prop) (k : Nat) {d : Nat} (p : Nat) (t : Tr d) (q : Nat) (v : Value) (m : Nat) : Prop :=
  ∃ (e p' : Nat) (t' : Tr e) (pre : List (Nat × Nat)), m = e ∧ v = ptrV p' ∧ NodeW w S p' t' ∧ 0 < lenT t' ∧ lenT t' ≤ 6 ∧ KidsT t' ∧ Rise (flatT t') ∧ StackW w q pre ∧ pre.length + e ≤ d ∧
    ∀ path pl lt, WayT w S k p' t' path pl lt → WayT w S k p t (pre ++ path) pl lt

set_option maxRecDepth 100000 in
set_option maxHeartbeats 8000000 in
theorem way_some {S : Nat → Prop} {w : World} {pt n d p : Nat} {t : Tr d} (h : TreeAt w pt (some p) n) (ht : NodeW w S p t) (hS : ∀ j, S j → j < w.heap.size) (h0 : 0 < lenT t) (h6 : lenT t ≤ 6) (hK : KidsT t) (hr : Rise (flatT t)) (hd : d ≤ 15) (k : Nat) :
    Calls Tryz.prog 53 #[ptrV pt, keyV k] w fun e w' => ∃ q path pl lt, e = .returned (.tuple #[ptrV q, ptrV pl]) ∧ StackW w' q path ∧ w.heap.size ≤ q ∧ WayT w' S k p t path pl lt ∧ Below w.heap.size w w' := by
  have hb0 : Below w.heap.size w (w.alloc (.cells #[.int .u16 (kVol k : Int), .int .u32 (kBlk k : Int), .int .u64 (kSeq k : Int)] 27)) := (Below.refl _ _).alloc (Nat.le_refl _) _
  have x0 : (w.alloc (.cells #[.int .u16 (kVol k : Int), .int .u32 (kBlk k : Int), .int .u64 (kSeq k : Int)] 27)).cell? ⟨w.heap.size, 0, none⟩ = some (.int .u16 (kVol k : Int)) := by simp
  have x1 : (w.alloc (.cells #[.int .u16 (kVol k : Int), .int .u32 (kBlk k : Int), .int .u64 (kSeq k : Int)] 27)).cell? ⟨w.heap.size, 1, none⟩ = some (.int .u32 (kBlk k : Int)) := by simp
  have x2 : (w.alloc (.cells #[.int .u16 (kVol k : Int), .int .u32 (kBlk k : Int), .int .u64 (kSeq k : Int)] 27)).cell? ⟨w.heap.size, 2, none⟩ = some (.int .u64 (kSeq k : Int)) := by simp
  have HN := Lib.hid (stackNew_any (w.alloc (.cells #[.int .u16 (kVol k : Int), .int .u32 (kBlk k : Int), .int .u64 (kSeq k : Int)] 27)))
  have hpt : pt < w.heap.size := (Array.getElem?_eq_some_iff.1 h).1
  have hsz0 : (w.alloc (.cells #[.int .u16 (kVol k : Int), .int .u32 (kBlk k : Int), .int .u64 (kSeq k : Int)] 27)).heap.size = w.heap.size + 1 := by simp
  unfold keyV
  unfold ptrV at HN ⊢
  go_enter Tryz.func53, Tryz.ntmps53
  go_wp2_with fail
  refine HN.out.mono ?_
  rintro e w2 ⟨rfl, hst, hb2⟩
  have hb := hb0.trans (hb2.mono hb0.size)
  have hrt : w2.cell? ⟨pt, 0, none⟩ = some (.pointer (some ⟨p, 0, none⟩)) := by
    have e : w2.heap[pt]? = some (.cells #[.pointer (some ⟨p, 0, none⟩), .int .i64 (n : Int)] 93 (0, 0)) := by rw [hb.block pt hpt]; exact h
    simp [World.cell?, e]
  rw [hsz0] at hst hb2
  have z0 : w2.cell? ⟨w.heap.size, 0, none⟩ = some (.int .u16 (kVol k : Int)) := by rw [hb2.cell (p := ⟨w.heap.size, 0, none⟩) (by simp)]; exact x0
  have z1 : w2.cell? ⟨w.heap.size, 1, none⟩ = some (.int .u32 (kBlk k : Int)) := by rw [hb2.cell (p := ⟨w.heap.size, 1, none⟩) (by simp)]; exact x1
  have z2 : w2.cell? ⟨w.heap.size, 2, none⟩ = some (.int .u64 (kSeq k : Int)) := by rw [hb2.cell (p := ⟨w.heap.size, 2, none⟩) (by simp)]; exact x2
  have hOn : OnWay w2 S k p t (w.heap.size + 1) (ptrV p) d := ⟨d, p, t, [], rfl, rfl, ht.same (Same.of_below hb hS), h0, h6, hK, hr, hst, by simp, fun path pl lt hw => hw⟩
  have HON := Lib.hid hOn
  have hq2 := hst.lt
  clear x0 x1 x2 HN hsz0 h ht h0 h6 hK hr hst hOn hb2
  generalize hB : w.heap.size = B at *
  go_wp2_with fail
  go_loopw [7] (fun u7 wr => ∃ m : Nat, OnWay wr S k p t (B + 1) u7 m ∧ Below (B + 1) w2 wr) (fun u7 wr => d - ((wr.cell? ⟨B + 1, 32, none⟩).map fun v => (intOf v).toNat).getD 0)
  case atStart => exact ⟨d, HON.out, Below.refl _ _⟩
  case round =>
    obtain ⟨m, ⟨e, p', t', pre, rfl, rfl, hN, h0, h6, hK, hr, hst, hle, hway⟩, hbr⟩ := hrel
    have hBr : Below B w wr := hb.trans (hbr.mono (by omega))
    have y0 : wr.cell? ⟨B, 0, none⟩ = some (.int .u16 (kVol k : Int)) := by rw [hbr.cell (p := ⟨B, 0, none⟩) (by show B < B + 1; omega)]; exact z0
    have y1 : wr.cell? ⟨B, 1, none⟩ = some (.int .u32 (kBlk k : Int)) := by rw [hbr.cell (p := ⟨B, 1, none⟩) (by show B < B + 1; omega)]; exact z1
    have y2 : wr.cell? ⟨B, 2, none⟩ = some (.int .u64 (kSeq k : Int)) := by rw [hbr.cell (p := ⟨B, 2, none⟩) (by show B < B + 1; omega)]; exact z2
    obtain ⟨ka, kc, va, vn, vc, ca, cn, cc, hbx, hkr⟩ := hN.box
    obtain ⟨b0, b1, b2, b3, hp'⟩ := hbx.reads
    unfold ptrV
    cases m with
    | zero =>
      have hfin := hway [] p' t' ⟨rfl, rfl, rfl, hN⟩
      have HF := Lib.hid hfin
      have HST := Lib.hid hst
      have b0' : wr.cell? ⟨p', 0, none⟩ = some (.bool true) := b0
      clear hway hN hK hr hst hkr hbx b0 b1 b2 b3 h0 h6 hfin
      go_wp2_with fail
      go_ret2
      exact ⟨B + 1, pre ++ [], p', t', rfl, by rw [List.append_nil]; exact HST.out, by omega, HF.out, by rw [hB]; exact hBr⟩
    | succ m =>
      have b0' : wr.cell? ⟨p', 0, none⟩ = some (.bool false) := b0
      have hSr : ∀ j, S j → j < wr.heap.size := fun j hj => by have := hS j hj; have := hBr.size; omega
      have HK := Lib.hid (kid_any hN hSr (by omega) (keys_rise hK hr) k)
      have HN := Lib.hid hN
      have HW := Lib.hid hway
      have HST := Lib.hid hst
      have HKK := Lib.hid hK
      have HR := Lib.hid hr
      have hpre : pre.length < 16 := by omega
      have hstl := hst.lt
      unfold keyV ptrV at HK
      clear hkr hbx b0 b1 b2 b3 hN hway hst hK hr
      go_wp2_with fail
      refine HK.out.mono ?_
      rintro e w3 ⟨rfl, hb3⟩
      have HST3 := Lib.hid (HST.out.heap (hb3.block (B + 1) hstl))
      have HPU := Lib.hid (stackPush_any HST3.out hpre p' (kidAt (keysT t') k))
      unfold ptrV at HPU
      go_wp2_with fail
      refine HPU.out.mono ?_
      rintro e w4 ⟨rfl, hst4, hg4⟩
      have hB3 : Below B w w3 := hBr.trans (hb3.mono (by have := hBr.size; omega))
      have hB4 : Below B w w4 := hB3.grown hg4 (by have := hB3.size; omega) (fun j hj => by cases hj; omega)
      have hBr4 : Below (B + 1) w2 w4 := (hbr.trans (hb3.mono (by omega))).grown hg4 (by have := hb3.size; omega) (fun j hj => by cases hj; exact Nat.le_refl _)
      have hsm : Same S wr w4 := (Same.of_below (B := B) ⟨(hg4.os.trans hb3.os), (hg4.tape.trans hb3.tape), (hg4.output.trans hb3.output), Nat.le_trans hb3.size hg4.size, fun j hj => by
        rw [hg4.block j (by have := hBr.size; have := hb3.size; omega) (fun e => by have := Option.some.inj e; omega)]
        exact hb3.block j (by have := hBr.size; omega)⟩ (fun j hj => by have := hS j hj; omega))
      have hN4 : NodeW w4 S p' t' := HN.out.same hsm
      have HN4 := Lib.hid hN4
      have HW4 : ∀ path pl lt, WayT w4 S k p' t' path pl lt → WayT w4 S k p t (pre ++ path) pl lt := fun path pl lt hw => WayT.same hsm (HW.out path pl lt (WayT.same (fun j hj => (hsm j hj).symm) hw))
      obtain ⟨c, hc⟩ := kid_some h0 k
      obtain ⟨ka', kc', ca', cc', ps, hbx4, hkr4, hsl4, hpl4, hkids4⟩ := hN4
      have hci := (List.getElem?_eq_some_iff.1 hc).1
      obtain ⟨q', hq'⟩ : ∃ q', ps[kidAt (keysT t') k]? = some q' := ⟨_, List.getElem?_eq_getElem (by rw [hpl4]; exact hci)⟩
      have hNc := hkids4 _ q' c hq' hc
      obtain ⟨cb, co, rfl, hcell⟩ := hsl4.2 (kidAt (keysT t') k) (ptrV q') (by rw [List.getElem?_map, hq']; rfl)
      obtain ⟨-, -, -, e3, -⟩ := hbx4.reads
      have hcm := List.mem_of_getElem? hc
      have hFc := FullT.kid HKK.out hcm
      have hOn : OnWay w4 S k p t (B + 1) (ptrV q') m := ⟨m, q', c, pre ++ [(p', kidAt (keysT t') k)], rfl, rfl, hNc, by have := hFc.lo; omega, hFc.hi, hFc.kids, kid_rise HR.out hcm, hst4, by simp; omega, fun path pl lt hw => by
        rw [List.append_assoc]
        exact HW4 _ pl lt ⟨HN4.out, q', c, path, rfl, hc, hNc, hw⟩⟩
      have hOn2 := Lib.hid hOn
      have e3' : w4.cell? ⟨p', 3, none⟩ = some (.slice (some ⟨cb, co, none⟩) (kidsT t').length cc') := e3
      have hcell' : w4.cell? ⟨cb, co + kidAt (keysT t') k, none⟩ = some (.pointer (some ⟨q', 0, none⟩)) := hcell
      have hi1 : ((kidAt (keysT t') k : Nat) : Int) < ((kidsT t').length : Int) := by omega
      have hst4' := hst4.reads.1
      have hst3' := HST.out.reads.1
      simp only [List.length_append, List.length_singleton] at hst4'
      have hme : pre.length < d := by omega
      clear hOn hNc hkids4 hsl4 hkr4 hbx4 HN4 HW4 HW HN HK HPU hFc hcell e3 hst4
      generalize kidAt (keysT t') k = ki at *
      generalize (kidsT t').length = kn at *
      go_wp2_with fail
      go_roundw
      case rel => exact ⟨m, hOn2.out, hBr4⟩
      case measure => rw [hst4', hst3']; simp [intOf]; omega
end Go.Proofs.YtejhbaeeaejcaaaGreat
/- The walks of tree.entry and tree.Tree.Floor. Conditions: those of each theorem. -/
namespace Go.Proofs.YtejhbaeeaejcaaaGreat
open Go.RowKit

/-- An entry as a value. -/
def entV (e : En) : Value := .agg #[.int .u16 (kVol e.1 : Int), .int .u32 (kBlk e.1 : Int), .int .u64 (kSeq e.1 : Int), .int .u32 (e.2 : Int)]
theorem laid4 (w : World) (a b c d : Value) (t : TypeId) : (w.alloc (.cells #[a, b, c, d] t)).drew.cell? ⟨w.heap.size, 0, none⟩ = some a ∧ (w.alloc (.cells #[a, b, c, d] t)).drew.cell? ⟨w.heap.size, 1, none⟩ = some b ∧ (w.alloc (.cells #[a, b, c, d] t)).drew.cell? ⟨w.heap.size, 2, none⟩ = some c ∧ (w.alloc (.cells #[a, b, c, d] t)).drew.cell? ⟨w.heap.size, 3, none⟩ = some d := by
  have h : ∀ k, (w.alloc (.cells #[a, b, c, d] t)).drew.cell? ⟨w.heap.size, k, none⟩ = (#[a, b, c, d] : Array Value)[k]? := fun k => by
    show (match (w.alloc (.cells #[a, b, c, d] t)).heap[w.heap.size]? with
      | some (.cells c _ _) => c[k]?
      | _ => none) = _
    rw [heap_alloc_new]
  exact ⟨h 0, h 1, h 2, h 3⟩
theorem entry_results (tmps : Array Value) (B : Nat) (v0 v1 v2 v3 : Value) (W : World) (h : tmps[4]? = some (.pointer (some ⟨B, 0, none⟩))) (q0 : W.cell? ⟨B, 0, none⟩ = some v0) (q1 : W.cell? ⟨B, 1, none⟩ = some v1) (q2 : W.cell? ⟨B, 2, none⟩ = some v2) (q3 : W.cell? ⟨B, 3, none⟩ = some v3) :
    (results Tryz.f55 tmps).run Tryz.prog W = .ok (.agg #[v0, v1, v2, v3]) W := by
  simp [results, Tryz.results55, go_sem, h, q0, q1, q2, q3]

set_option maxRecDepth 100000 in
set_option maxHeartbeats 8000000 in
theorem entry_any {S : Nat → Prop} {w : World} {p : Nat} {t : Tr 0} (ht : NodeW w S p t) (i : Nat) (e : En) (he : (rowT t)[i]? = some e) :
    Calls Tryz.prog 55 #[ptrV p, .int .i64 (i : Int)] w fun r w' => r = .returned (entV e) ∧ Below w.heap.size w w' := by
  obtain ⟨ka, kc, va, vc, hbx, hkr, hvr⟩ := ht
  obtain ⟨-, b1, b2, -, hp⟩ := hbx.reads
  have hi := (List.getElem?_eq_some_iff.1 he).1
  obtain ⟨kb, ko, k, rfl, hk, c0, c1, c2⟩ := hkr.list i hi
  have hke : k = e.1 := by
    have : (keysT t)[i]? = some e.1 := by
      show ((rowT t).map (·.1))[i]? = _
      rw [List.getElem?_map, he]; rfl
    rw [hk] at this
    exact Option.some.inj this
  subst hke
  obtain ⟨vb, vo, rfl, c3⟩ := hvr.2 i (atV e.2) (by rw [List.getElem?_map, he]; rfl)
  unfold atV at c3
  have hi1 : (i : Int) < ((rowT t).length : Int) := by omega
  generalize (rowT t).length = n at *
  have Z := cell_past b1 (.cells #[.int .u16 0, .int .u32 0, .int .u64 0, .int .u32 0] 60)
  have Z2 := cell_past b2 (.cells #[.int .u16 0, .int .u32 0, .int .u64 0, .int .u32 0] 60)
  have d0 := cell_past c0 (.cells #[.int .u16 0, .int .u32 0, .int .u64 0, .int .u32 0] 60)
  have d1 := cell_past c1 (.cells #[.int .u16 0, .int .u32 0, .int .u64 0, .int .u32 0] 60)
  have d2 := cell_past c2 (.cells #[.int .u16 0, .int .u32 0, .int .u64 0, .int .u32 0] 60)
  have d3 := cell_past c3 (.cells #[.int .u16 0, .int .u32 0, .int .u64 0, .int .u32 0] 60)
  unfold ptrV entV
  clear hbx hkr hvr
  go_enter Tryz.func55, Tryz.ntmps55
  go_wp2_with fail
  go_region
  all_goals
    go_wp2_with fail
    have hL := laid4 w (.int .u16 (kVol e.1 : Int)) (.int .u32 (kBlk e.1 : Int)) (.int .u64 (kSeq e.1 : Int)) (.int .u32 (e.2 : Int)) 60
    refine bodyPost_ret (entry_results _ w.heap.size _ _ _ _ _ rfl hL.1 hL.2.1 hL.2.2.1 hL.2.2.2) rfl ?_
    exact ⟨rfl, Below.drewB ((Below.refl _ _).alloc (Nat.le_refl _) _)⟩

/-- The leaf at the way's end. -/
theorem WayT.leaf {S : Nat → Prop} {w : World} {k : Nat} : ∀ {d : Nat} {p : Nat} {t : Tr d} {path : List (Nat × Nat)} {pl : Nat} {lt : Tr 0}, WayT w S k p t path pl lt → 0 < lenT t → lenT t ≤ 6 → KidsT t → Rise (flatT t) →
    NodeW w S pl lt ∧ 0 < lenT lt ∧ lenT lt ≤ 6 ∧ Rise (flatT lt) ∧ floorT t k = floorT lt k
  | 0, _, _, _, _, _, h, h0, h6, _, hr => by
    obtain ⟨-, rfl, rfl, hn⟩ := h
    exact ⟨hn, h0, h6, hr, rfl⟩
  | d + 1, _, t, _, _, _, ⟨_, q, c, path', _, h2, _, h4⟩, _, _, hK, hr => by
    have hcm := List.mem_of_getElem? h2
    have hF := FullT.kid hK hcm
    obtain ⟨a1, a2, a3, a4, a5⟩ := WayT.leaf h4 (by have := hF.lo; omega) hF.hi hF.kids (kid_rise hr hcm)
    refine ⟨a1, a2, a3, a4, ?_⟩
    rw [← a5]
    conv => lhs; unfold floorT
    rw [h2]
    rfl
theorem floorE_at {l : List En} (hr : Rise l) (k : Nat) : floorE l k = if 0 ≤ findZ (l.map (·.1)) k then l[(findZ (l.map (·.1)) k).toNat]? else none := by
  have hm : ((l.map (·.1)).filter fun x => decide (x ≤ k)).length = (l.filter fun x => decide (x.1 ≤ k)).length := by
    rw [List.filter_map, List.length_map]; rfl
  have hk : l.filter (fun x => decide (x.1 ≤ k)) = l.take (l.filter fun x => decide (x.1 ≤ k)).length := by
    clear hm
    induction l with
    | nil => rfl
    | cons x l ih =>
      unfold Rise at hr ih
      rw [List.pairwise_cons] at hr
      by_cases hx : x.1 ≤ k
      · rw [List.filter_cons_of_pos (by simpa using hx), List.length_cons, List.take_succ_cons, ← ih hr.2]
      · have : l.filter (fun x => decide (x.1 ≤ k)) = [] := by
          rw [List.filter_eq_nil_iff]
          intro y hy
          have := hr.1 y hy
          simp; omega
        rw [List.filter_cons_of_neg (by simpa using hx), this]
        rfl
  unfold floorE findZ
  rw [hm]
  have hle := List.length_filter_le (fun x : En => decide (x.1 ≤ k)) l
  rw [hk]
  generalize (l.filter fun x => decide (x.1 ≤ k)).length = c at *
  rw [List.length_take]
  rcases Nat.eq_zero_or_pos c with rfl | hc
  · simp
  · rw [if_pos (by omega), List.getLast?_eq_getElem?, List.length_take, List.getElem?_take_of_lt (by omega)]
    congr 1
    omega
theorem floor_results (tmps : Array Value) (B : Nat) (e v0 v1 v2 v3 : Value) (W : World) (h : tmps[4]? = some (.pointer (some ⟨B, 0, none⟩))) (h5 : tmps[5]? = some e) (q0 : W.cell? ⟨B, 0, none⟩ = some v0) (q1 : W.cell? ⟨B, 1, none⟩ = some v1) (q2 : W.cell? ⟨B, 2, none⟩ = some v2) (q3 : W.cell? ⟨B, 3, none⟩ = some v3) :
    (results Tryz.f31 tmps).run Tryz.prog W = .ok (.tuple #[.agg #[v0, v1, v2, v3], e]) W := by
  simp [results, Tryz.results31, go_sem, h, h5, q0, q1, q2, q3]

theorem four {W : World} {B : Nat} {a b c d : Value} {t : TypeId} (h : W.heap[B]? = some (.cells #[a, b, c, d] t (0, 0))) :
    W.cell? ⟨B, 0, none⟩ = some a ∧ W.cell? ⟨B, 1, none⟩ = some b ∧ W.cell? ⟨B, 2, none⟩ = some c ∧ W.cell? ⟨B, 3, none⟩ = some d ∧ ∀ j, W.frozen? ⟨B, j, none⟩ = false := by
  refine ⟨?_, ?_, ?_, ?_, fun j => ?_⟩ <;> simp [World.cell?, World.frozen?, h]
theorem set4 {W : World} {B : Nat} {a b c d : Value} {t : TypeId} (h : W.heap[B]? = some (.cells #[a, b, c, d] t (0, 0))) (v0 v1 v2 v3 : Value) :
    ((((W.setCell ⟨B, 0, none⟩ v0).setCell ⟨B, 1, none⟩ v1).setCell ⟨B, 2, none⟩ v2).setCell ⟨B, 3, none⟩ v3).heap[B]? = some (.cells #[v0, v1, v2, v3] t (0, 0)) :=
  heap_setCell_same _ B 3 _ _ v3 (heap_setCell_same _ B 2 _ _ v2 (heap_setCell_same _ B 1 _ _ v1 (heap_setCell_same W B 0 _ _ v0 h)))
theorem below_set4 {W w : World} {B C : Nat} (h : Below C w W) (hB : C ≤ B) (v0 v1 v2 v3 : Value) : Below C w ((((W.setCell ⟨B, 0, none⟩ v0).setCell ⟨B, 1, none⟩ v1).setCell ⟨B, 2, none⟩ v2).setCell ⟨B, 3, none⟩ v3) :=
  (((h.setCell (p := ⟨B, 0, none⟩) hB v0).setCell (p := ⟨B, 1, none⟩) hB v1).setCell (p := ⟨B, 2, none⟩) hB v2).setCell (p := ⟨B, 3, none⟩) hB v3
/-- What Floor comes to. -/
def floorR : Option En → Value
  | none => .tuple #[.agg #[.int .u16 0, .int .u32 0, .int .u64 0, .int .u32 0], .bool false]
  | some e => .tuple #[entV e, .bool true]

set_option maxRecDepth 100000 in
set_option maxHeartbeats 8000000 in
theorem floor_some {S : Nat → Prop} {w : World} {pt n d p : Nat} {t : Tr d} (h : TreeAt w pt (some p) n) (ht : NodeW w S p t) (hS : ∀ j, S j → j < w.heap.size) (h0 : 0 < lenT t) (h6 : lenT t ≤ 6) (hK : KidsT t) (hr : Rise (flatT t)) (hd : d ≤ 15) (k : Nat) :
    Calls Tryz.prog 31 #[ptrV pt, keyV k] w fun r w' => r = .returned (floorR (floorE (flatT t) k)) ∧ Below w.heap.size w w' := by
  have hb0 : Below w.heap.size w ((w.alloc (.cells #[.int .u16 (kVol k : Int), .int .u32 (kBlk k : Int), .int .u64 (kSeq k : Int)] 27)).alloc (.cells #[.int .u16 0, .int .u32 0, .int .u64 0, .int .u32 0] 60)) := ((Below.refl _ _).alloc (Nat.le_refl _) _).alloc (by simp) _
  have x0 : ((w.alloc (.cells #[.int .u16 (kVol k : Int), .int .u32 (kBlk k : Int), .int .u64 (kSeq k : Int)] 27)).alloc (.cells #[.int .u16 0, .int .u32 0, .int .u64 0, .int .u32 0] 60)).cell? ⟨w.heap.size, 0, none⟩ = some (.int .u16 (kVol k : Int)) := cell_past (by simp) _
  have x1 : ((w.alloc (.cells #[.int .u16 (kVol k : Int), .int .u32 (kBlk k : Int), .int .u64 (kSeq k : Int)] 27)).alloc (.cells #[.int .u16 0, .int .u32 0, .int .u64 0, .int .u32 0] 60)).cell? ⟨w.heap.size, 1, none⟩ = some (.int .u32 (kBlk k : Int)) := cell_past (by simp) _
  have x2 : ((w.alloc (.cells #[.int .u16 (kVol k : Int), .int .u32 (kBlk k : Int), .int .u64 (kSeq k : Int)] 27)).alloc (.cells #[.int .u16 0, .int .u32 0, .int .u64 0, .int .u32 0] 60)).cell? ⟨w.heap.size, 2, none⟩ = some (.int .u64 (kSeq k : Int)) := cell_past (by simp) _
  have hsz : ((w.alloc (.cells #[.int .u16 (kVol k : Int), .int .u32 (kBlk k : Int), .int .u64 (kSeq k : Int)] 27)).alloc (.cells #[.int .u16 0, .int .u32 0, .int .u64 0, .int .u32 0] 60)).heap.size = w.heap.size + 2 := by simp
  have ho : ((w.alloc (.cells #[.int .u16 (kVol k : Int), .int .u32 (kBlk k : Int), .int .u64 (kSeq k : Int)] 27)).alloc (.cells #[.int .u16 0, .int .u32 0, .int .u64 0, .int .u32 0] 60)).heap[w.heap.size + 1]? = some (.cells #[.int .u16 0, .int .u32 0, .int .u64 0, .int .u32 0] 60) := by
    have := heap_alloc_new (w.alloc (.cells #[.int .u16 (kVol k : Int), .int .u32 (kBlk k : Int), .int .u64 (kSeq k : Int)] 27)) (.cells #[.int .u16 0, .int .u32 0, .int .u64 0, .int .u32 0] 60)
    rw [show (w.alloc (.cells #[.int .u16 (kVol k : Int), .int .u32 (kBlk k : Int), .int .u64 (kSeq k : Int)] 27)).heap.size = w.heap.size + 1 by simp] at this
    exact this
  have hpt : pt < w.heap.size := (Array.getElem?_eq_some_iff.1 h).1
  have hW := way_some (w := ((w.alloc (.cells #[.int .u16 (kVol k : Int), .int .u32 (kBlk k : Int), .int .u64 (kSeq k : Int)] 27)).alloc (.cells #[.int .u16 0, .int .u32 0, .int .u64 0, .int .u32 0] 60))) (show TreeAt ((w.alloc (.cells #[.int .u16 (kVol k : Int), .int .u32 (kBlk k : Int), .int .u64 (kSeq k : Int)] 27)).alloc (.cells #[.int .u16 0, .int .u32 0, .int .u64 0, .int .u32 0] 60)) pt (some p) n from (hb0.block pt hpt).trans h) (ht.same (Same.of_below hb0 hS)) (fun j hj => by rw [hsz]; have := hS j hj; omega) h0 h6 hK hr hd k
  rw [← floor_flat h0 hK hr k]
  have HW := Lib.hid hW
  unfold keyV ptrV at HW ⊢
  clear hW h ht
  go_enter Tryz.func31, Tryz.ntmps31
  go_wp2_with fail
  generalize ((w.alloc (.cells #[.int .u16 (kVol k : Int), .int .u32 (kBlk k : Int), .int .u64 (kSeq k : Int)] 27)).alloc (.cells #[.int .u16 0, .int .u32 0, .int .u64 0, .int .u32 0] 60)) = w0 at *
  refine HW.out.mono ?_
  rintro r w3 ⟨q, path, pl, lt, rfl, -, -, hway, hb3⟩
  obtain ⟨hN, l0, l6, hrl, hfl⟩ := hway.leaf h0 h6 hK hr
  have z0 : w3.cell? ⟨w.heap.size, 0, none⟩ = some (.int .u16 (kVol k : Int)) := by rw [hb3.cell (p := ⟨w.heap.size, 0, none⟩) (by show w.heap.size < w0.heap.size; omega)]; exact x0
  have z1 : w3.cell? ⟨w.heap.size, 1, none⟩ = some (.int .u32 (kBlk k : Int)) := by rw [hb3.cell (p := ⟨w.heap.size, 1, none⟩) (by show w.heap.size < w0.heap.size; omega)]; exact x1
  have z2 : w3.cell? ⟨w.heap.size, 2, none⟩ = some (.int .u64 (kSeq k : Int)) := by rw [hb3.cell (p := ⟨w.heap.size, 2, none⟩) (by show w.heap.size < w0.heap.size; omega)]; exact x2
  have ho3 : w3.heap[w.heap.size + 1]? = some (.cells #[.int .u16 0, .int .u32 0, .int .u64 0, .int .u32 0] 60) := by rw [hb3.block _ (by omega)]; exact ho
  have hB3 := hb0.trans (hb3.mono (by omega))
  have HF := Lib.hid (find_any hN (by omega) (keys_rise (d := 0) (t := lt) trivial hrl) k)
  have HN := Lib.hid hN
  have hfe : floorT t k = if 0 ≤ findZ (keysT lt) k then (rowT lt)[(findZ (keysT lt) k).toNat]? else none := by
    rw [hfl]
    exact floorE_at hrl k
  have HFE := Lib.hid hfe
  have hzl : findZ (keysT lt) k < (rowT lt).length := by
    unfold findZ
    have := List.length_filter_le (fun x => decide (x ≤ k)) (keysT lt)
    rw [keys_len] at this
    show _ < ((lenT lt : Nat) : Int)
    omega
  unfold keyV ptrV at HF
  clear hway hN hfl hfe HW hrl hr hK x0 x1 x2 ho
  generalize findZ (keysT lt) k = z at *
  go_wp2_with fail
  refine HF.out.mono ?_
  rintro r w4 ⟨rfl, hb4⟩
  have ho4 : w4.heap[w.heap.size + 1]? = some (.cells #[.int .u16 0, .int .u32 0, .int .u64 0, .int .u32 0] 60) := by rw [hb4.block _ (Array.getElem?_eq_some_iff.1 ho3).1]; exact ho3
  have hB4 := hB3.trans (hb4.mono hB3.size)
  by_cases hz : 0 ≤ z
  · obtain ⟨i, rfl⟩ : ∃ i : Nat, z = i := ⟨z.toNat, by omega⟩
    have hil : i < (rowT lt).length := by omega
    have hge : (rowT lt)[i]? = some (rowT lt)[i] := List.getElem?_eq_getElem hil
    have hres : floorT t k = some (rowT lt)[i] := by rw [HFE.out, if_pos hz]; simp
    have HRES := Lib.hid hres
    have hlow : ∀ j, S j → j < w3.heap.size := fun j hj => by have := hS j hj; have := hB3.size; omega
    have HE := Lib.hid (entry_any (HN.out.same (Same.of_below hb4 hlow)) i _ hge)
    generalize (rowT lt)[i] = en at *
    unfold ptrV entV at HE
    have hz2 : ¬ (i : Int) < 0 := by omega
    clear hge hres
    go_wp2_with fail
    refine HE.out.mono ?_
    rintro r w5 ⟨rfl, hb5⟩
    have ho5 : w5.heap[w.heap.size + 1]? = some (.cells #[.int .u16 0, .int .u32 0, .int .u64 0, .int .u32 0] 60) := by rw [hb5.block _ (Array.getElem?_eq_some_iff.1 ho4).1]; exact ho4
    have hB5 := hB4.trans (hb5.mono hB4.size)
    obtain ⟨q0, q1, q2, q3, qf⟩ := four ho5
    have HO := Lib.hid ho5
    clear ho5 ho4 ho3
    go_wp2_with fail
    have hs := four (set4 HO.out (.int .u16 (kVol en.1 : Int)) (.int .u32 (kBlk en.1 : Int)) (.int .u64 (kSeq en.1 : Int)) (.int .u32 (en.2 : Int)))
    refine bodyPost_ret (floor_results _ (w.heap.size + 1) _ _ _ _ _ _ rfl rfl hs.1 hs.2.1 hs.2.2.1 hs.2.2.2.1) rfl ?_
    exact ⟨by rw [HRES.out]; rfl, below_set4 hB5 (by omega) _ _ _ _⟩
  · have hz2 : z < 0 := by omega
    have hres : floorT t k = none := by rw [HFE.out, if_neg hz]
    have HRES := Lib.hid hres
    clear hres
    obtain ⟨q0, q1, q2, q3, qf⟩ := four ho4
    have HO := Lib.hid ho4
    clear ho4 ho3
    go_wp2_with fail
    have hs := four (set4 HO.out (.int .u16 0) (.int .u32 0) (.int .u64 0) (.int .u32 0))
    refine bodyPost_ret (floor_results _ (w.heap.size + 1) _ _ _ _ _ _ rfl rfl hs.1 hs.2.1 hs.2.2.1 hs.2.2.2.1) rfl ?_
    exact ⟨by rw [HRES.out]; rfl, below_set4 hB4 (by omega) _ _ _ _⟩

set_option maxRecDepth 100000 in
set_option maxHeartbeats 8000000 in
theorem floor_none {w : World} {pt n : Nat} (h : TreeAt w pt none n) (k : Nat) :
    Calls Tryz.prog 31 #[ptrV pt, keyV k] w fun r w' => r = .returned (floorR none) ∧ Below w.heap.size w w' := by
  have hb0 : Below w.heap.size w ((w.alloc (.cells #[.int .u16 (kVol k : Int), .int .u32 (kBlk k : Int), .int .u64 (kSeq k : Int)] 27)).alloc (.cells #[.int .u16 0, .int .u32 0, .int .u64 0, .int .u32 0] 60)) := ((Below.refl _ _).alloc (Nat.le_refl _) _).alloc (by simp) _
  have x0 : ((w.alloc (.cells #[.int .u16 (kVol k : Int), .int .u32 (kBlk k : Int), .int .u64 (kSeq k : Int)] 27)).alloc (.cells #[.int .u16 0, .int .u32 0, .int .u64 0, .int .u32 0] 60)).cell? ⟨w.heap.size, 0, none⟩ = some (.int .u16 (kVol k : Int)) := cell_past (by simp) _
  have x1 : ((w.alloc (.cells #[.int .u16 (kVol k : Int), .int .u32 (kBlk k : Int), .int .u64 (kSeq k : Int)] 27)).alloc (.cells #[.int .u16 0, .int .u32 0, .int .u64 0, .int .u32 0] 60)).cell? ⟨w.heap.size, 1, none⟩ = some (.int .u32 (kBlk k : Int)) := cell_past (by simp) _
  have x2 : ((w.alloc (.cells #[.int .u16 (kVol k : Int), .int .u32 (kBlk k : Int), .int .u64 (kSeq k : Int)] 27)).alloc (.cells #[.int .u16 0, .int .u32 0, .int .u64 0, .int .u32 0] 60)).cell? ⟨w.heap.size, 2, none⟩ = some (.int .u64 (kSeq k : Int)) := cell_past (by simp) _
  have hsz : ((w.alloc (.cells #[.int .u16 (kVol k : Int), .int .u32 (kBlk k : Int), .int .u64 (kSeq k : Int)] 27)).alloc (.cells #[.int .u16 0, .int .u32 0, .int .u64 0, .int .u32 0] 60)).heap.size = w.heap.size + 2 := by simp
  have ho : ((w.alloc (.cells #[.int .u16 (kVol k : Int), .int .u32 (kBlk k : Int), .int .u64 (kSeq k : Int)] 27)).alloc (.cells #[.int .u16 0, .int .u32 0, .int .u64 0, .int .u32 0] 60)).heap[w.heap.size + 1]? = some (.cells #[.int .u16 0, .int .u32 0, .int .u64 0, .int .u32 0] 60) := by
    have := heap_alloc_new (w.alloc (.cells #[.int .u16 (kVol k : Int), .int .u32 (kBlk k : Int), .int .u64 (kSeq k : Int)] 27)) (.cells #[.int .u16 0, .int .u32 0, .int .u64 0, .int .u32 0] 60)
    rw [show (w.alloc (.cells #[.int .u16 (kVol k : Int), .int .u32 (kBlk k : Int), .int .u64 (kSeq k : Int)] 27)).heap.size = w.heap.size + 1 by simp] at this
    exact this
  have hpt : pt < w.heap.size := (Array.getElem?_eq_some_iff.1 h).1
  have HW := Lib.hid (way_none (w := ((w.alloc (.cells #[.int .u16 (kVol k : Int), .int .u32 (kBlk k : Int), .int .u64 (kSeq k : Int)] 27)).alloc (.cells #[.int .u16 0, .int .u32 0, .int .u64 0, .int .u32 0] 60))) (show TreeAt ((w.alloc (.cells #[.int .u16 (kVol k : Int), .int .u32 (kBlk k : Int), .int .u64 (kSeq k : Int)] 27)).alloc (.cells #[.int .u16 0, .int .u32 0, .int .u64 0, .int .u32 0] 60)) pt none n from (hb0.block pt hpt).trans h) k)
  unfold keyV ptrV at HW ⊢
  clear h
  go_enter Tryz.func31, Tryz.ntmps31
  go_wp2_with fail
  generalize ((w.alloc (.cells #[.int .u16 (kVol k : Int), .int .u32 (kBlk k : Int), .int .u64 (kSeq k : Int)] 27)).alloc (.cells #[.int .u16 0, .int .u32 0, .int .u64 0, .int .u32 0] 60)) = w0 at *
  refine HW.out.mono ?_
  rintro r w3 ⟨q, rfl, -, -, hb3⟩
  have ho3 : w3.heap[w.heap.size + 1]? = some (.cells #[.int .u16 0, .int .u32 0, .int .u64 0, .int .u32 0] 60) := by rw [hb3.block _ (by omega)]; exact ho
  have hB3 := hb0.trans (hb3.mono (by omega))
  obtain ⟨q0, q1, q2, q3, qf⟩ := four ho3
  have HO := Lib.hid ho3
  clear ho3 ho HW x0 x1 x2
  go_wp2_with fail
  have hs := four (set4 HO.out (.int .u16 0) (.int .u32 0) (.int .u64 0) (.int .u32 0))
  refine bodyPost_ret (floor_results _ (w.heap.size + 1) _ _ _ _ _ _ rfl rfl hs.1 hs.2.1 hs.2.2.1 hs.2.2.2.1) rfl ?_
  exact ⟨rfl, below_set4 hB3 (by omega) _ _ _ _⟩
end Go.Proofs.YtejhbaeeaejcaaaGreat
/- Rows of entries, and the walk of node.Node's Entries. Conditions: those of each theorem. -/
namespace Go.Proofs.YtejhbaeeaejcaaaGreat
open Go.RowKit

def encN (e : En) : List Value := [.int .u16 (kVol e.1 : Int), .int .u32 (kBlk e.1 : Int), .int .u64 (kSeq e.1 : Int), .int .u32 (e.2 : Int)]
theorem encN_len (e : En) : (encN e).length = 4 := rfl
theorem encN_one (e : En) : ∀ u ∈ encN e, u.oneCell' = true := fun u hu => by
  simp [encN] at hu
  rcases hu with rfl | rfl | rfl | rfl <;> rfl
theorem infoEn : (Tryz.prog.info? 60).map (fun i => (i.zero, i.size, i.bytes)) = some (some (.agg #[.int .u16 0, .int .u32 0, .int .u64 0, .int .u32 0]), 4, 24) := by kernel_rfl
theorem info_cut {P : Program} {t : TypeId} {z : Value} {s b : Nat} (h : (P.info? t).map (fun i => (i.zero, i.size, i.bytes)) = some (some z, s, b)) : ∃ i0, P.info? t = some i0 ∧ i0.zero = some z ∧ i0.size = s ∧ i0.bytes = b := by
  cases hi : P.info? t with
  | none => rw [hi] at h; cases h
  | some i0 =>
    rw [hi] at h
    simp at h
    exact ⟨i0, rfl, h.1, h.2.1, h.2.2⟩
theorem RowE.one (w : World) (e : En) : RowE encN 4 (w.alloc (.cells (encN e).toArray 60)) (some ⟨w.heap.size, 0, none⟩) 1 [e] := by
  refine ⟨rfl, fun i r h => ?_⟩
  have hi : i < 1 := by simpa using (List.getElem?_eq_some_iff.1 h).1
  have : i = 0 := by omega
  subst this
  simp at h
  subst h
  refine ⟨w.heap.size, 0, rfl, fun j x hx => ?_⟩
  show (match (w.alloc (.cells (encN e).toArray 60)).heap[w.heap.size]? with
    | some (.cells c _ _) => c[0 + 0 * 4 + j]?
    | _ => none) = _
  rw [heap_alloc_new]
  simpa using hx
theorem OwnE.push {w : World} {B : Nat} {v : Value} {l : List En} (h : OwnE encN 4 60 w B v l) (e : En) (hl : l.length ≤ 100000000) (hB : B ≤ w.heap.size) :
    ∃ v' w', (Builtin.append_ #[36, 36] 36 #[v, .slice (some ⟨w.heap.size, 0, none⟩) 1 1]).run Tryz.prog (w.alloc (.cells (encN e).toArray 60)) = .ok v' w' ∧ OwnE encN 4 60 w' B v' (l ++ [e]) ∧ w.grownBy w' v.ownBlock := by
  obtain ⟨i0, hi, hz0, hz1, hz2⟩ := info_cut infoEn
  have hown : OwnE encN 4 60 (w.alloc (.cells (encN e).toArray 60)) B v l := by
    refine ⟨h.1, ?_⟩
    rcases h.2 with h2 | ⟨g, cap, cur, hv, hg, hh, r⟩
    · exact .inl h2
    · exact .inr ⟨g, cap, cur, hv, hg, by rw [Below.heap_alloc _ _ _ (Array.getElem?_eq_some_iff.1 hh).1]; exact hh, r⟩
  obtain ⟨v', w', hr, ho, hg⟩ := hown.app encN_len (by decide) encN_one Tryz.underlying36 hi hz0 hz1 hz2 rfl 1 (RowE.one w e) (by omega) (by omega) (by simp; omega)
  refine ⟨v', w', hr, ho, ⟨hg.os, hg.tape, hg.output, Nat.le_trans (by simp) hg.size, fun j hj hne => ?_⟩⟩
  rw [hg.block j (by simp; omega) hne, Below.heap_alloc _ _ _ hj]

set_option maxRecDepth 100000 in
set_option maxHeartbeats 8000000 in
theorem entries_any {S : Nat → Prop} {w : World} {p : Nat} {t : Tr 0} (ht : NodeW w S p t) (hS : ∀ j, S j → j < w.heap.size) (hn : lenT t ≤ 1000) :
    Calls Tryz.prog 86 #[ptrV p] w fun e w' => ∃ v, e = .returned v ∧ OwnE encN 4 60 w' w.heap.size v (rowT t) ∧ Below w.heap.size w w' := by
  have hn' : (rowT t).length ≤ 1000 := hn
  obtain ⟨ka, kc, va, vc, hbx0, hkr0, hvr0⟩ := ht
  obtain ⟨-, -, a2, -, -⟩ := hbx0.reads
  have HX := Lib.hid hbx0
  have HK := Lib.hid hkr0
  have HV := Lib.hid hvr0
  unfold ptrV
  clear hbx0 hkr0 hvr0
  go_enter Tryz.func86, Tryz.ntmps86
  go_wp2_with fail
  go_loopw [3, 11] (fun u3 u11 wr => ∃ i : Nat, i ≤ (rowT t).length ∧ u11 = .int .i64 i ∧ OwnE encN 4 60 wr w.heap.size u3 ((rowT t).take i) ∧ Below w.heap.size w wr) (fun _ u11 _ => (rowT t).length - (intOf u11).toNat)
  case atStart => exact ⟨0, by omega, rfl, World.ownsRow_nil _ _ _ _, Below.refl _ _⟩
  case round =>
    obtain ⟨i, hi, rfl, hown, hbr⟩ := hrel
    by_cases hlt : i < (rowT t).length
    · have hi1 : (i : Int) < ((rowT t).length : Int) := by omega
      have hsm : Same S w wr := Same.of_below hbr hS
      obtain ⟨-, b1, b2, -, -⟩ := (HX.out.same hsm).reads
      obtain ⟨e, he⟩ : ∃ e, (rowT t)[i]? = some e := ⟨_, List.getElem?_eq_getElem hlt⟩
      obtain ⟨kb, ko, kk, rfl, hk, c0, c1, c2⟩ := (HK.out.same HX.out.keys hsm).list i hlt
      have hke : kk = e.1 := by
        have : (keysT t)[i]? = some e.1 := by
          show ((rowT t).map (·.1))[i]? = _
          rw [List.getElem?_map, he]; rfl
        rw [hk] at this
        exact Option.some.inj this
      subst hke
      obtain ⟨vb, vo, rfl, c3⟩ := (HV.out.same HX.out.vals hsm).2 i (atV e.2) (by rw [List.getElem?_map, he]; rfl)
      unfold atV at c3
      have hlen : ((rowT t).take i).length ≤ 1000 := by rw [List.length_take]; omega
      obtain ⟨v', w', hap, ho', hg⟩ := hown.push e (by omega) hbr.size
      rw [show (rowT t).take i ++ [e] = (rowT t).take (i + 1) by rw [List.take_add_one, he]; rfl] at ho'
      have hbr' : Below w.heap.size w w' := Below.own hbr hown hg (Nat.le_refl _) hbr.size
      have HO := Lib.hid ho'
      have hap' : (Builtin.append_ #[36, 36] 36 #[u3, .slice (some ⟨wr.heap.size, 0, none⟩) 1 1]).run Tryz.prog (wr.alloc (.cells #[.int .u16 (kVol e.1 : Int), .int .u32 (kBlk e.1 : Int), .int .u64 (kSeq e.1 : Int), .int .u32 (e.2 : Int)] 60)) = .ok v' w' := hap
      clear hap
      clear hk he hown ho' hg hsm
      generalize (rowT t).length = n at *
      go_wp2_with (at_builtin; refine wpList_append_run rfl _ _ _ rfl hap' ?_)
      go_roundw
      case rel => exact ⟨i + 1, by omega, by go_num, HO.out, hbr'⟩
      case measure => simp [intOf]; omega
    · obtain rfl : i = (rowT t).length := by omega
      rw [List.take_of_length_le (Nat.le_refl _)] at hown
      go_wp2_with fail
      go_ret
      exact ⟨_, rfl, hown, hbr⟩
end Go.Proofs.YtejhbaeeaejcaaaGreat
