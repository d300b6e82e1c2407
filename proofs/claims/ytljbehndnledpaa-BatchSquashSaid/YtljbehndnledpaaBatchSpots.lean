/- The map of spots, and the walk of batch.spots. Conditions: those of each theorem. -/
import Derived.Maps.OwnIn
import Derived.DeepKeys3
import Derived.Maps.Views
import Derived.Test.YtljbehndnledpaaBatchPlain
import Derived.Test.YtljbehndnledpaaBatchSmall
import Derived.Test.YtljbehndnledpaaExtent
namespace Go.Proofs.Ytljbehndnledpaa
open Go.RowKit Go.Maps

def spotV (s : Int × Int) : Value := .agg #[.int .i64 s.1, .int .i64 s.2]
def spotL (s : Int × Int) : Lit := .string (keyBytes [.int .i64 s.1, .int .i64 s.2])
def spotD (S : List (Int × Int)) : DataW Unit := S.foldr (fun s D => D.put (spotL s) (.lit (.int .i64 1))) (.map [])

theorem InS.wf {s : Int × Int} (h : InS s) : (Lit.int .i64 s.1).wf = true ∧ (Lit.int .i64 s.2).wf = true := by
  obtain ⟨⟨h1, h2⟩, h3, h4⟩ := h
  constructor
  · simp [Lit.wf, IntKind.min, IntKind.max, IntKind.signed, IntKind.bits]; omega
  · simp [Lit.wf, IntKind.min, IntKind.max, IntKind.signed, IntKind.bits]; omega

theorem cells222 : Try.prog.cellsOf 222 = 2 := by kernel_rfl
theorem cells3s : Try.prog.cellsOf 3 = 1 := by kernel_rfl
theorem keyType222 : Try.prog.keyType 222 = true := by kernel_rfl
theorem keyTypeAt222 : Try.prog.keyTypeAt 3 222 = true := by kernel_rfl
theorem tiled222 : Try.prog.tiled 3 222 = true := by kernel_rfl
theorem law222 : Keyed Try.prog 222 := Keyed.of_law (deep_law (m := 3) (by omega) keyTypeAt222 tiled222 (by rw [Try.underlying222]))
/-- What a pair of numbers reads as, as a key. -/
theorem keyOf_pair {P : Program} {t : TypeId} {f0 f1 : Field} (hu : P.underlying t = some (.struct #[f0, f1])) (hu3 : P.underlying 3 = some (.int .i64)) (hkt : P.keyType t = true) (hc : P.cellsOf t = 2) (hc3 : P.cellsOf 3 = 1) (hsz : 0 < P.types.size)
    (n0 : (f0.name != "_") = true) (n1 : (f1.name != "_") = true) (t0 : f0.type = 3) (t1 : f1.type = 3) (o0 : f0.offset = 0) (o1 : f1.offset = 1) (x y : Int) (hx : (Lit.int .i64 x).wf = true) (hy : (Lit.int .i64 y).wf = true) :
    keyOf P t (.agg #[.int .i64 x, .int .i64 y]) = some (.string (keyBytes [.int .i64 x, .int .i64 y])) := by
  obtain ⟨k, hk⟩ : ∃ k, P.types.size = k + 1 := ⟨P.types.size - 1, by omega⟩
  unfold keyOf
  rw [hu]
  simp only [bne_iff_ne, ne_eq] at n0 n1
  simp [hkt, Value.formed, hu, hc, Value.cells, hk, Program.keyLits, hu3, hc3, hx, hy, n0, n1, t0, t1, o0, o1]
theorem rows222 : (0 : Nat) < Try.prog.types.size := of_decide_eq_true (by kernel_rfl)
theorem keyOf_spot (s : Int × Int) (h : InS s) : keyOf Try.prog 222 (spotV s) = some (spotL s) :=
  keyOf_pair Try.underlying222 Try.underlying3 keyType222 cells222 cells3s rows222 (by decide) (by decide) rfl rfl rfl rfl s.1 s.2 h.wf.1 h.wf.2

theorem spotL_inj {s u : Int × Int} (hs : InS s) (hu : InS u) (h : spotL s = spotL u) : s = u := by
  have := law222.inj (keyOf_spot s hs) (by rw [h]; exact keyOf_spot u hu)
  unfold spotV at this
  simp at this
  exact Prod.ext this.1 this.2
theorem spotD_map (S : List (Int × Int)) : IsMap (spotD S) := by
  induction S with
  | nil => exact ⟨_, rfl⟩
  | cons s S ih => obtain ⟨es, h⟩ := ih; exact ⟨_, by show DataW.put (spotD S) _ _ = _; rw [h]; rfl⟩
theorem spotD_at (S : List (Int × Int)) (hS : ∀ s ∈ S, InS s) (u : Int × Int) (hu : InS u) : (spotD S).atKey (spotL u) (.lit (.int .i64 0)) = .lit (.int .i64 (if u ∈ S then 1 else 0)) := by
  induction S with
  | nil => rfl
  | cons s S ih =>
    show (DataW.put (spotD S) (spotL s) (.lit (.int .i64 1))).atKey (spotL u) _ = _
    by_cases e : u = s
    · subst e
      rw [atKey_put_same (spotD_map S) (law222.key (keyOf_spot u hu))]
      simp
    · have hne : spotL u ≠ spotL s := fun h => e (spotL_inj hu (hS s (by simp)) h)
      rw [atKey_put_other hne, ih (fun s hs => hS s (by simp [hs]))]
      simp [e]

/-- Block b is a map that has just those spots. -/
def Spots (w : World) (b : Nat) (S : List (Int × Int)) : Prop := (∀ s ∈ S, InS s) ∧ w.ownsMap Try.prog 222 (plainElem Try.prog 3) b S.length (spotD S)
theorem Spots.made (w : World) : Spots (w.alloc (.map #[] 0)) w.heap.size [] := ⟨by simp, World.ownsMap_made w Try.prog 222 _⟩
theorem Spots.kept {w w' : World} {b : Nat} {S : List (Int × Int)} {row : Option Nat} (h : Spots w b S) (hg : w.grownBy w' row) (hne : some b ≠ row) : Spots w' b S := ⟨h.1, h.2.kept hg hne⟩
theorem Spots.heap {w w' : World} {b : Nat} {S : List (Int × Int)} (h : Spots w b S) (hb : w'.heap[b]? = w.heap[b]?) : Spots w' b S := by
  obtain ⟨es, clock, h1, h2⟩ := h.2
  exact ⟨h.1, es, clock, hb.trans h1, h2⟩
theorem Spots.obj {w : World} {b : Nat} {S : List (Int × Int)} (h : Spots w b S) : ∃ es clock, w.heap[b]? = some (.map es clock) := by
  obtain ⟨es, clock, h1, h2⟩ := h.2
  exact ⟨es, clock, h1⟩
theorem Spots.look {w : World} {b : Nat} {S : List (Int × Int)} (h : Spots w b S) (s : Int × Int) (hs : InS s) :
    (Instr.lookup 215 (.map (some b)) (.agg #[.int .i64 s.1, .int .i64 s.2]) false).run Try.prog w = .ok (.int .i64 (if s ∈ S then 1 else 0)) w := by
  obtain ⟨c, hrun, hat, -⟩ := h.2.lookup_int law222 Try.underlying215 Try.underlying3 (Try.zeroValue3 w) (keyOf_spot s hs)
  rw [spotD_at S h.1 s hs] at hat
  have e : (if s ∈ S then 1 else 0) = c := by simpa using hat
  rw [e]
  exact hrun
theorem Spots.put {w : World} {b : Nat} {S : List (Int × Int)} (h : Spots w b S) (s : Int × Int) (hs : InS s) (hl : S.length ≤ 1000000) :
    ∃ w', (Instr.mapUpdate 215 (.map (some b)) (.agg #[.int .i64 s.1, .int .i64 s.2]) (.int .i64 1)).run Try.prog w = .ok () w' ∧ Spots w' b (s :: S) ∧ w.grownBy w' (some b) := by
  obtain ⟨w', hrun, ho, hg⟩ := h.2.update law222 Try.underlying215 (by unfold maxLen; omega) (keyOf_spot s hs) (plainElem_int Try.underlying3 (a := 1) (by decide))
  refine ⟨w', hrun, ⟨fun u hu => ?_, ho⟩, hg⟩
  rcases List.mem_cons.1 hu with rfl | hu
  · exact hs
  · exact h.1 u hu
theorem Spots.cleared {w : World} {b : Nat} {S : List (Int × Int)} (h : Spots w b S) (ty : TypeId) :
    ∃ w', (Builtin.clear_ #[215] ty #[.map (some b)]).run Try.prog w = .ok (.tuple #[]) w' ∧ Spots w' b [] ∧ w.grownBy w' (some b) := by
  obtain ⟨es, clock, hb, -⟩ := h.2
  refine ⟨_, by simp [Builtin.clear_, run_underlying Try.underlying215, MapKept.run_getObj_map hb, MapKept.run_setObj_map _ hb, Result.andThen]; rfl, ⟨by simp, #[], clock, ChangeMaps.heap_setBlock_same hb _, ⟨by simp, MapKept.stamped_empty _, by simp⟩, Nat.le_refl _, rfl⟩, ?_⟩
  exact ⟨rfl, rfl, rfl, by simp [ChangeMaps.setBlock], fun i _ hi => ChangeMaps.heap_setBlock_other hb _ (fun e => hi (by rw [e]))⟩
end Go.Proofs.Ytljbehndnledpaa
namespace Go.Proofs.Ytljbehndnledpaa
open Go.RowKit

/-- A slice of spots of the call's own. -/
def OwnSpots (w : World) (B : Nat) (v : Value) (l : List (Int × Int)) : Prop := w.ownsRow B 222 2 v l.length (runCells l)
theorem info222 : (Try.prog.info? 222).map (fun i => (i.zero, i.size, i.bytes)) = some (some (.agg #[.int .i64 0, .int .i64 0]), 2, 16) := by kernel_rfl
theorem OwnSpots.push {w : World} {B : Nat} {v : Value} {l : List (Int × Int)} (h : OwnSpots w B v l) (x y : Int) (hl : l.length ≤ 1000000000) (hB : B ≤ w.heap.size) :
    ∃ v' w', (Builtin.append_ #[219, 219] 219 #[v, .slice (some ⟨w.heap.size, 0, none⟩) 1 1]).run Try.prog (w.alloc (.cells #[.int .i64 x, .int .i64 y] 222)) = .ok v' w' ∧ OwnSpots w' B v' (l ++ [(x, y)]) ∧ w.grownBy w' v.ownBlock := by
  obtain ⟨i0, hi, hz0, hz1, hz2⟩ := info_parts info222
  obtain ⟨v', w', hr, hown, hg, _⟩ := app_new (P := Try.prog) Try.underlying219 hi hz0 hz1 hz2 rfl (by decide) h 1 [.int .i64 x, .int .i64 y] rfl (by simp [Value.oneCell']) (by unfold maxLen; omega) (by omega) hB
  refine ⟨v', w', hr, ?_, hg⟩
  unfold OwnSpots
  rw [runCells_app, List.length_append]
  exact hown
theorem OwnSpots.one (w : World) {B : Nat} (hB : B ≤ w.heap.size) (x y : Int) : OwnSpots (w.alloc (.cells #[.int .i64 x, .int .i64 y] 222)) B (.slice (some ⟨w.heap.size, 0, none⟩) 1 1) [(x, y)] :=
  ⟨rfl, .inr ⟨w.heap.size, 1, #[.int .i64 x, .int .i64 y], rfl, hB, heap_alloc_new w _, Nat.le_refl 1, by unfold maxLen; omega, rfl, rfl⟩⟩
theorem OwnSpots.runs {w : World} {B : Nat} {v : Value} {l : List (Int × Int)} (h : OwnSpots w B v l) : ∃ a cap, v = .slice a l.length cap ∧ Runs w a l.length l ∧ l.length ≤ cap := by
  rcases h.2 with ⟨rfl, h0⟩ | ⟨g, cap, cur, rfl, hbg, hg, hnc, hcm, hcs, htake⟩
  · have : l = [] := List.eq_nil_of_length_eq_zero h0
    subst this
    exact ⟨none, 0, rfl, ⟨rfl, fun i r hr => by simp at hr⟩, Nat.le_refl _⟩
  · refine ⟨some ⟨g, 0, none⟩, cap, rfl, ⟨rfl, fun i r hr => ?_⟩, hnc⟩
    obtain ⟨h1, h2⟩ := runCells_at l i r hr
    have e1 := h.cells (g := g) rfl _ _ h1
    have e2 := h.cells (g := g) rfl _ _ h2
    refine ⟨g, 0, rfl, ?_, ?_⟩
    · rw [← e1]; congr 1; unfold Addr.add; split <;> simp_all
    · rw [← e2]; congr 1

set_option maxRecDepth 100000 in
set_option maxHeartbeats 4000000 in
theorem spots_any (o : PO) (da ma : Option Addr) (dn dc mn mc : Nat) (w : World) (hp : o.plain56 = true) :
    Calls Try.prog 141 #[.agg #[.int .i64 o.k, .int .i64 o.v, .int .i64 o.i, .int .i64 o.b, .int .i64 o.n, .int .u64 o.pt, .slice da dn dc, .slice ma mn mc]] w fun e w' => ∃ v, e = .returned v ∧ OwnSpots w' w.heap.size v o.spots ∧ Below w.heap.size w w' := by
  have hbd := plain_bounds hp
  have hb : Below w.heap.size w (w.alloc (.cells #[.int .i64 o.k, .int .i64 o.v, .int .i64 o.i, .int .i64 o.b, .int .i64 o.n, .int .u64 o.pt, .slice da dn dc, .slice ma mn mc] 80)) := (Below.refl _ _).alloc (Nat.le_refl _) _
  have hC := Cells8.new w o.k o.v o.i o.b o.n o.pt (.slice da dn dc) (.slice ma mn mc)
  have hsz : (w.alloc (.cells #[.int .i64 o.k, .int .i64 o.v, .int .i64 o.i, .int .i64 o.b, .int .i64 o.n, .int .u64 o.pt, .slice da dn dc, .slice ma mn mc] 80)).heap.size = w.heap.size + 1 := by simp
  obtain ⟨k, v, i, b, n, pt, d, m⟩ := o
  simp only at *
  clear hp
  by_cases h4 : k = 4
  · subst h4
    have hs : PO.spots ⟨4, v, i, b, n, pt, d, m⟩ = [(v, b)] := rfl
    rw [hs]
    obtain ⟨c0, c1, c2, c3, c4, -⟩ := hC
    have hO := OwnSpots.one _ hb.size v b
    rw [hsz] at hO
    have HO := Lib.hid hO
    clear hO
    go_enter Try.func141, Try.ntmps141
    go_wp2_with fail
    go_ret
    exact ⟨_, rfl, HO.out, hb.alloc hb.size _⟩
  · obtain ⟨rfl, hn1, hn2⟩ : k = 5 ∧ 1 ≤ n ∧ n ≤ 32 := by omega
    obtain ⟨N, rfl⟩ : ∃ N : Nat, n = N := ⟨n.toNat, by omega⟩
    have hs : PO.spots ⟨5, v, i, b, (N : Int), pt, d, m⟩ = (List.range N).map fun j : Nat => (v, b + (j : Int)) := by
      unfold PO.spots PO.blocks
      rw [if_neg (show ¬ (5 : Int) = 4 by decide), List.map_map]
      rfl
    rw [hs]
    have HC := Lib.hid hC
    have HS := Lib.hid hs
    obtain ⟨c0, c1, c2, c3, c4, -⟩ := hC
    clear hs
    go_enter Try.func141, Try.ntmps141
    go_wp2_with fail
    generalize w.alloc (.cells #[.int .i64 5, .int .i64 v, .int .i64 i, .int .i64 b, .int .i64 (N : Int), .int .u64 pt, .slice da dn dc, .slice ma mn mc] 80) = wA at *
    go_loopw [3, 16] (fun u3 u16 wr => ∃ j : Nat, j ≤ N ∧ u16 = .int .i64 j ∧ OwnSpots wr wA.heap.size u3 ((List.range j).map fun j : Nat => (v, b + (j : Int))) ∧ Below wA.heap.size wA wr) (fun _ u16 _ => N - (intOf u16).toNat)
    case atStart => exact ⟨0, by omega, rfl, World.ownsRow_nil _ _ _ _, Below.refl _ _⟩
    case round =>
      obtain ⟨j, hj, rfl, hown, hbw⟩ := hrel
      by_cases hlt : j < N
      · obtain ⟨e0, e1, e2, e3, e4, -⟩ := HC.out.below hbw (by omega)
        obtain ⟨v', w', hap, hown', hgr⟩ := hown.push v (b + (j : Int)) (by simp; omega) hbw.size
        have hbw' := Below.own hbw hown hgr (Nat.le_refl _) hbw.size
        have hnx : ((List.range j).map fun j : Nat => (v, b + (j : Int))) ++ [(v, b + (j : Int))] = (List.range (j + 1)).map fun j : Nat => (v, b + (j : Int)) := by rw [List.range_succ, List.map_append]; rfl
        rw [hnx] at hown'
        have HO := Lib.hid hown'
        have s1 : IntKind.i64.wrap (b + (j : Int)) = b + (j : Int) := IntWalk.i64_in _ (by omega)
        have hi1 : (j : Int) < (N : Int) := by omega
        clear hown hown' hgr hnx c0 c1 c2 c3 c4
        go_wp2_with (at_builtin; refine wpList_append_run rfl _ _ _ rfl hap ?_)
        exact ⟨⟨j + 1, by omega, by go_num, HO.out, hbw'⟩, by simp [intOf]; omega⟩
      · obtain rfl : j = N := by omega
        go_wp2_with fail
        go_ret
        exact ⟨_, rfl, owns_lower hown hb.size, hb.trans (hbw.mono hb.size)⟩
end Go.Proofs.Ytljbehndnledpaa
