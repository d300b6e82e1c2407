/- A map of spots to counts, as the list of its entries in the order in which they were laid. Conditions: those of each theorem. -/
import Derived.Maps.Range
import Derived.DeepKeys3
import Derived.WideKeyEntry
import Derived.Test.YtljbehndnledpaaStep
namespace Go.Proofs.Ytljbehndnledpaa
open Go.RowKit Go.Maps Go.ChangeMaps

/-- A spot and its count. -/
abbrev Hs := (Int × Int) × Int
def HsIn (s : Int × Int) : Prop := (-9223372036854775808 ≤ s.1 ∧ s.1 ≤ 9223372036854775807) ∧ -9223372036854775808 ≤ s.2 ∧ s.2 ≤ 9223372036854775807
def hsV (s : Int × Int) : Value := .agg #[.int .i64 s.1, .int .i64 s.2]
def hsL (s : Int × Int) : Lit := .string (keyBytes [.int .i64 s.1, .int .i64 s.2])
theorem HsIn.wf {s : Int × Int} (h : HsIn s) : (Lit.int .i64 s.1).wf = true ∧ (Lit.int .i64 s.2).wf = true := by
  obtain ⟨⟨h1, h2⟩, h3, h4⟩ := h
  constructor
  · simp [Lit.wf, IntKind.min, IntKind.max, IntKind.signed, IntKind.bits]; omega
  · simp [Lit.wf, IntKind.min, IntKind.max, IntKind.signed, IntKind.bits]; omega
theorem hsV_inj {s u : Int × Int} (h : hsV s = hsV u) : s = u := by
  unfold hsV at h
  simp at h
  exact Prod.ext h.1 h.2

theorem cells99 : Try.prog.cellsOf 99 = 2 := by kernel_rfl
theorem cells3h : Try.prog.cellsOf 3 = 1 := by kernel_rfl
theorem keyType99 : Try.prog.keyType 99 = true := by kernel_rfl
theorem keyTypeAt99 : Try.prog.keyTypeAt 3 99 = true := by kernel_rfl
theorem tiled99 : Try.prog.tiled 3 99 = true := by kernel_rfl
theorem klaw99 : WideMaps.KeyLaw Try.prog 99 := deep_law (m := 3) (by omega) keyTypeAt99 tiled99 (by rw [Try.underlying99])
theorem law99 : Keyed Try.prog 99 := Keyed.of_law klaw99
theorem keyOf_pair99 {P : Program} {t : TypeId} {f0 f1 : Field} (hu : P.underlying t = some (.struct #[f0, f1])) (hu3 : P.underlying 3 = some (.int .i64)) (hkt : P.keyType t = true) (hc : P.cellsOf t = 2) (hc3 : P.cellsOf 3 = 1) (hsz : 0 < P.types.size)
    (n0 : (f0.name != "_") = true) (n1 : (f1.name != "_") = true) (t0 : f0.type = 3) (t1 : f1.type = 3) (o0 : f0.offset = 0) (o1 : f1.offset = 1) (x y : Int) (hx : (Lit.int .i64 x).wf = true) (hy : (Lit.int .i64 y).wf = true) :
    keyOf P t (.agg #[.int .i64 x, .int .i64 y]) = some (.string (keyBytes [.int .i64 x, .int .i64 y])) := by
  obtain ⟨k, hk⟩ : ∃ k, P.types.size = k + 1 := ⟨P.types.size - 1, by omega⟩
  unfold keyOf
  rw [hu]
  simp only [bne_iff_ne, ne_eq] at n0 n1
  simp [hkt, Value.formed, hu, hc, Value.cells, hk, Program.keyLits, hu3, hc3, hx, hy, n0, n1, t0, t1, o0, o1]
theorem rows99 : (0 : Nat) < Try.prog.types.size := of_decide_eq_true (by kernel_rfl)
theorem keyOf_hs (s : Int × Int) (h : HsIn s) : keyOf Try.prog 99 (hsV s) = some (hsL s) :=
  keyOf_pair99 Try.underlying99 Try.underlying3 keyType99 cells99 cells3h rows99 (by decide) (by decide) rfl rfl rfl rfl s.1 s.2 h.wf.1 h.wf.2

/-- The count of a spot. -/
def cntS : List Hs → Int × Int → Int
  | [], _ => 0
  | p :: L, s => if p.1 = s then p.2 else cntS L s
/-- The count of a spot set. -/
def setS : List Hs → Int × Int → Int → List Hs
  | [], s, v => [(s, v)]
  | p :: L, s, v => if p.1 = s then (s, v) :: L else p :: setS L s v
theorem cntS_none : ∀ {L : List Hs} {s : Int × Int}, (∀ p ∈ L, p.1 ≠ s) → cntS L s = 0
  | [], _, _ => rfl
  | p :: L, s, h => by
    unfold cntS
    rw [if_neg (h p (by simp)), cntS_none (fun q hq => h q (by simp [hq]))]
theorem setS_none : ∀ {L : List Hs} {s : Int × Int} (v : Int), (∀ p ∈ L, p.1 ≠ s) → setS L s v = L ++ [(s, v)]
  | [], _, _, _ => rfl
  | p :: L, s, v, h => by
    unfold setS
    rw [if_neg (h p (by simp)), setS_none v (fun q hq => h q (by simp [hq]))]
    rfl
theorem cntS_at : ∀ {L : List Hs} {j : Nat} {p : Hs}, (L.map (·.1)).Nodup → L[j]? = some p → cntS L p.1 = p.2
  | [], _, _, _, h => by simp at h
  | q :: L, 0, p, _, h => by
    simp only [List.getElem?_cons_zero, Option.some.injEq] at h
    subst h
    simp [cntS]
  | q :: L, j + 1, p, hn, h => by
    simp only [List.getElem?_cons_succ] at h
    simp only [List.map_cons, List.nodup_cons] at hn
    have hne : q.1 ≠ p.1 := fun e => hn.1 (List.mem_map.2 ⟨p, List.mem_of_getElem? h, e.symm⟩)
    unfold cntS
    rw [if_neg hne, cntS_at hn.2 h]
theorem setS_at : ∀ {L : List Hs} {j : Nat} {p : Hs} (v : Int), (L.map (·.1)).Nodup → L[j]? = some p → setS L p.1 v = L.set j (p.1, v)
  | [], _, _, _, _, h => by simp at h
  | q :: L, 0, p, v, _, h => by
    simp only [List.getElem?_cons_zero, Option.some.injEq] at h
    subst h
    simp [setS]
  | q :: L, j + 1, p, v, hn, h => by
    simp only [List.getElem?_cons_succ] at h
    simp only [List.map_cons, List.nodup_cons] at hn
    have hne : q.1 ≠ p.1 := fun e => hn.1 (List.mem_map.2 ⟨p, List.mem_of_getElem? h, e.symm⟩)
    unfold setS
    rw [if_neg hne, setS_at v hn.2 h]
    rfl

def kvE (e : MapEntry) : Value × Value := (e.key, e.val)
def kvH (p : Hs) : Value × Value := (hsV p.1, .int .i64 p.2)

/-- Entries that read as a list of spots and counts, in its order. -/
structure ReadsH (es : List MapEntry) (L : List Hs) : Prop where
  eq : es.map kvE = L.map kvH
  ok : ∀ p ∈ L, HsIn p.1
theorem ReadsH.len {es : List MapEntry} {L : List Hs} (h : ReadsH es L) : es.length = L.length := by
  have := congrArg List.length h.eq
  simpa using this
theorem ReadsH.at {es : List MapEntry} {L : List Hs} (h : ReadsH es L) {j : Nat} {e : MapEntry} (he : es[j]? = some e) : ∃ p, L[j]? = some p ∧ e.key = hsV p.1 ∧ e.val = .int .i64 p.2 := by
  have h1 := congrArg (fun l => l[j]?) h.eq
  simp only [List.getElem?_map, he, Option.map_some] at h1
  cases hp : L[j]? with
  | none => rw [hp] at h1; cases h1
  | some p =>
    rw [hp] at h1
    simp only [Option.map_some, Option.some.injEq, kvE, kvH, Prod.mk.injEq] at h1
    exact ⟨p, rfl, h1.1, h1.2⟩
theorem ReadsH.mem {es : List MapEntry} {L : List Hs} (h : ReadsH es L) {e : MapEntry} (he : e ∈ es) : ∃ p ∈ L, e.key = hsV p.1 ∧ e.val = .int .i64 p.2 := by
  obtain ⟨j, hj⟩ := List.getElem?_of_mem he
  obtain ⟨p, hp, h1, h2⟩ := h.at hj
  exact ⟨p, List.mem_of_getElem? hp, h1, h2⟩
theorem ReadsH.mem' {es : List MapEntry} {L : List Hs} (h : ReadsH es L) {p : Hs} (hp : p ∈ L) : ∃ e ∈ es, e.key = hsV p.1 ∧ e.val = .int .i64 p.2 := by
  have : kvH p ∈ es.map kvE := by rw [h.eq]; exact List.mem_map.2 ⟨p, hp, rfl⟩
  obtain ⟨e, he, h1⟩ := List.mem_map.1 this
  simp only [kvE, kvH, Prod.mk.injEq] at h1
  exact ⟨e, he, h1.1, h1.2⟩

/-- Block b is a map whose entries are those of the list. -/
structure HMap (w : World) (b : Nat) (es : Array MapEntry) (clock : Nat) (L : List Hs) : Prop where
  obj : w.heap[b]? = some (.map es clock)
  st : MapKept.Stamped es clock
  rd : ReadsH es.toList L
  len : L.length ≤ 1000000
theorem HMap.nodup {w : World} {b : Nat} {es : Array MapEntry} {clock : Nat} {L : List Hs} (h : HMap w b es clock L) : (L.map (·.1)).Nodup := by
  obtain ⟨-, -, h3⟩ := h.st
  have e1 : es.toList.map (·.key) = (L.map (·.1)).map hsV := by
    have := congrArg (List.map Prod.fst) h.rd.eq
    simpa [List.map_map, Function.comp_def, kvE, kvH] using this
  rw [e1] at h3
  exact List.Pairwise.of_map hsV (fun a c h e => h (congrArg hsV e)) h3
theorem HMap.keys {w : World} {b : Nat} {es : Array MapEntry} {clock : Nat} {L : List Hs} (h : HMap w b es clock L) : ∀ e ∈ es.toList, ∃ l, keyOf Try.prog 99 e.key = some l := fun e he => by
  obtain ⟨p, hp, h1, -⟩ := h.rd.mem he
  exact ⟨_, by rw [h1]; exact keyOf_hs p.1 (h.rd.ok p hp)⟩
theorem HMap.absent {w : World} {b : Nat} {es : Array MapEntry} {clock : Nat} {L : List Hs} (h : HMap w b es clock L) {s : Int × Int} (h2 : ∀ x ∈ es.toList, x.key ≠ hsV s) : ∀ p ∈ L, p.1 ≠ s := fun p hp e => by
  obtain ⟨x, hx, h1, -⟩ := h.rd.mem' hp
  exact h2 x hx (by rw [h1, e])
theorem HMap.found {w : World} {b : Nat} {es : Array MapEntry} {clock : Nat} {L : List Hs} (h : HMap w b es clock L) {s : Int × Int} {j : Nat} {e : MapEntry} (h2 : es.toList[j]? = some e) (h3 : e.key = hsV s) : ∃ p, L[j]? = some p ∧ p.1 = s ∧ e.val = .int .i64 p.2 := by
  obtain ⟨p, hp, h1, h4⟩ := h.rd.at h2
  exact ⟨p, hp, hsV_inj (h1.symm.trans h3), h4⟩
theorem HMap.lt {w : World} {b : Nat} {es : Array MapEntry} {clock : Nat} {L : List Hs} (h : HMap w b es clock L) : b < w.heap.size := (Array.getElem?_eq_some_iff.1 h.obj).1
theorem HMap.heap {w w' : World} {b : Nat} {es : Array MapEntry} {clock : Nat} {L : List Hs} (h : HMap w b es clock L) (hb : w'.heap[b]? = w.heap[b]?) : HMap w' b es clock L := ⟨hb.trans h.obj, h.st, h.rd, h.len⟩
theorem HMap.made (w : World) : HMap (w.alloc (.map #[] 0)) w.heap.size #[] 0 [] := ⟨heap_alloc_new w _, MapKept.stamped_empty 0, ⟨rfl, by simp⟩, by simp⟩

/-- 'm[s]'. -/
theorem HMap.look {w : World} {b : Nat} {es : Array MapEntry} {clock : Nat} {L : List Hs} (h : HMap w b es clock L) (s : Int × Int) (hs : HsIn s) :
    (Instr.lookup 101 (.map (some b)) (.agg #[.int .i64 s.1, .int .i64 s.2]) false).run Try.prog w = .ok (.int .i64 (cntS L s)) w := by
  have hkey := keyOf_hs s hs
  rcases law99.find w hkey es.toList h.keys with ⟨h1, h2⟩ | ⟨j, e0, h1, h2, h3⟩
  · rw [cntS_none (h.absent h2)]
    show (Instr.lookup 101 (.map (some b)) (hsV s) false).run Try.prog w = _
    simp [Instr.lookup, run_underlying Try.underlying101, MapKept.run_getObj_map h.obj, law99.check w _ hkey, h1, Try.zeroValue3 w, Result.andThen]
  · obtain ⟨p, hp, rfl, hv⟩ := h.found h2 h3
    rw [cntS_at h.nodup hp]
    show (Instr.lookup 101 (.map (some b)) (hsV p.1) false).run Try.prog w = _
    simp [Instr.lookup, run_underlying Try.underlying101, MapKept.run_getObj_map h.obj, law99.check w _ hkey, h1, Result.andThen, hv]

/-- The entry of a spot, found or laid, with its stamp; and the count stored there. -/
theorem HMap.entry {w : World} {b : Nat} {es : Array MapEntry} {clock : Nat} {L : List Hs} (h : HMap w b es clock L) (s : Int × Int) (hs : HsIn s) (hl : L.length < 1000000) :
    ∃ es1 clock1 st, (Instr.mapEntry 101 (.map (some b)) (.agg #[.int .i64 s.1, .int .i64 s.2])).run Try.prog w = .ok (.tuple #[.int .i64 (cntS L s), .int .i64 st]) (setBlock w b (.map es1 clock1)) ∧
      HMap (setBlock w b (.map es1 clock1)) b es1 clock1 (setS L s (cntS L s)) ∧
      ∀ (w2 : World) (v : Int), w2.heap[b]? = some (.map es1 clock1) → ∃ es', (Instr.entryStore 101 (.map (some b)) (.int .i64 st) (.int .i64 v)).run Try.prog w2 = .ok () (setBlock w2 b (.map es' clock1)) ∧ HMap (setBlock w2 b (.map es' clock1)) b es' clock1 (setS L s v) := by
  have hkey := keyOf_hs s hs
  obtain ⟨s1, s2, s3⟩ := h.st
  rcases law99.find w hkey es.toList h.keys with ⟨h1, h2⟩ | ⟨j, e0, h1, h2, h3⟩
  · have ha := h.absent h2
    have hrd : ∀ v : Int, ReadsH (es.push ⟨hsV s, .int .i64 v, clock⟩).toList (L ++ [(s, v)]) := fun v => ⟨by rw [Array.toList_push, List.map_append, h.rd.eq, List.map_append]; rfl, fun p hp => by
      rcases List.mem_append.1 hp with hp | hp
      · exact h.rd.ok p hp
      · simp only [List.mem_singleton] at hp; rw [hp]; exact hs⟩
    have hst : ∀ v : Int, MapKept.Stamped (es.push ⟨hsV s, .int .i64 v, clock⟩) (clock + 1) := fun v => MapKept.stamped_push h.st h2
    have hl' : ∀ v : Int, (L ++ [(s, v)]).length ≤ 1000000 := fun v => by simp; omega
    refine ⟨es.push ⟨hsV s, .int .i64 0, clock⟩, clock + 1, clock, ?_, ?_, fun w2 v hw2 => ⟨es.push ⟨hsV s, .int .i64 v, clock⟩, ?_, ?_⟩⟩
    · rw [cntS_none ha]
      show (Instr.mapEntry 101 (.map (some b)) (hsV s)).run Try.prog w = _
      simp [Instr.mapEntry, run_underlying Try.underlying101, MapKept.run_getObj_map h.obj, law99.check w false hkey, h1, Try.zeroValue3 w, MapKept.run_setObj_map _ h.obj, Result.andThen, setBlock, goInt]
    · rw [cntS_none ha, setS_none _ ha]
      exact ⟨heap_setBlock_same h.obj _, hst 0, hrd 0, hl' 0⟩
    · have hidx : (es.push ⟨hsV s, .int .i64 0, clock⟩).findIdx? (fun e => ((e.born : Nat) : Int) == ((clock : Nat) : Int)) = some es.size := by
        rw [WideElems.findIdx_arr]
        exact WideElems.findIdx_born (l := (es.push ⟨hsV s, .int .i64 0, clock⟩).toList) (j := es.size) (e0 := ⟨hsV s, .int .i64 0, clock⟩) (hst 0).2.1 (by simp)
      have hmod : (es.push ⟨hsV s, .int .i64 0, clock⟩).modify es.size (fun e => { e with val := .int .i64 v }) = es.push ⟨hsV s, .int .i64 v, clock⟩ := by
        apply Array.ext'
        rw [Array.toList_modify, Array.toList_push, Array.toList_push, ← Array.length_toList, WideElems.modify_last]
      simp [Instr.entryStore, MapKept.run_getObj_map hw2, asInt, asIntOf, hidx, hmod, MapKept.run_setObj_map _ hw2, Result.andThen, setBlock]
    · rw [setS_none _ ha]
      exact ⟨heap_setBlock_same hw2 _, hst v, hrd v, hl' v⟩
  · obtain ⟨p, hp, rfl, hv⟩ := h.found h2 h3
    have hj : es[j]? = some e0 := by simpa using h2
    have hsame : es.modify j (fun e => { e with key := hsV p.1 }) = es := by
      apply Array.ext'
      rw [Array.toList_modify, modify_eq_set _ _ _ _ h2]
      have : ({ e0 with key := hsV p.1 } : MapEntry) = e0 := by rw [← h3]
      rw [this]
      exact WideElems.set_self _ _ _ h2
    have hset0 : setS L p.1 (cntS L p.1) = L := by
      rw [setS_at _ h.nodup hp, cntS_at h.nodup hp]
      exact WideElems.set_self _ _ _ hp
    refine ⟨es, clock, e0.born, ?_, ?_, fun w2 v hw2 => ⟨es.modify j (fun e => { e with val := .int .i64 v }), ?_, ?_⟩⟩
    · rw [cntS_at h.nodup hp]
      show (Instr.mapEntry 101 (.map (some b)) (hsV p.1)).run Try.prog w = _
      simp [Instr.mapEntry, run_underlying Try.underlying101, MapKept.run_getObj_map h.obj, law99.check w false hkey, h1, hj, h3, hv, law99.stays w hkey, hsame, MapKept.run_setObj_map _ h.obj, Result.andThen, setBlock, goInt]
    · rw [hset0]
      exact ⟨heap_setBlock_same h.obj _, h.st, h.rd, h.len⟩
    · have hidx : es.findIdx? (fun e => ((e.born : Nat) : Int) == ((e0.born : Nat) : Int)) = some j := by
        rw [WideElems.findIdx_arr]
        exact WideElems.findIdx_born s2 h2
      simp [Instr.entryStore, MapKept.run_getObj_map hw2, asInt, asIntOf, hidx, MapKept.run_setObj_map _ hw2, Result.andThen, setBlock]
    · rw [setS_at _ h.nodup hp]
      refine ⟨heap_setBlock_same hw2 _, MapKept.stamped_modify h.st _ _ (fun _ _ => rfl) (fun _ _ _ => rfl), ⟨?_, fun q hq => ?_⟩, by simpa using h.len⟩
      · rw [Array.toList_modify, modify_eq_set _ _ _ _ h2, List.map_set, List.map_set, h.rd.eq]
        have : kvE { e0 with val := .int .i64 v } = kvH (p.1, v) := by simp [kvE, kvH, h3]
        rw [this]
      · rcases List.mem_or_eq_of_mem_set hq with hq | hq
        · exact h.rd.ok q hq
        · rw [hq]; exact hs
end Go.Proofs.Ytljbehndnledpaa
