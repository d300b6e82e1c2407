/- Blocks that are free, on a heap: container/heap at rising numbers. Conditions: those of each theorem. -/
import Derived.BigQuiet
import Derived.Maps.Own
import Derived.Maps.Views
import Derived.Deep.RegionLaw
import Derived.Test.YtljbehndnledpaaOwnInts
import Derived.Test.YtljbehndnledpaaStepApp
namespace Go.Proofs.Ytljbehndnledpaa
open Go.RowKit

theorem m327Len : (Try.prog.info? 327).map (fun i => (i.methods.find? (fun x => x.name == "Len")).map fun m => (m.path.toList, m.func)) = some (some ([], some (264, false))) := by kernel_rfl
theorem m327Less : (Try.prog.info? 327).map (fun i => (i.methods.find? (fun x => x.name == "Less")).map fun m => (m.path.toList, m.func)) = some (some ([], some (265, false))) := by kernel_rfl
theorem fn264 (v : Array Value) (w : World) : (callFunc 264 v).run Try.prog w = .ok (.enter 264 v) w := by kernel_rfl
theorem fn265 (v : Array Value) (w : World) : (callFunc 265 v).run Try.prog w = .ok (.enter 265 v) w := by kernel_rfl
theorem row_of {P : Program} {t : TypeId} {name : String} {g : FuncId × Bool} (h : (P.info? t).map (fun i => (i.methods.find? (fun x => x.name == name)).map fun m => (m.path.toList, m.func)) = some (some ([], some g))) :
    ∃ i, P.info? t = some i ∧ ∃ m, i.methods.find? (fun x => x.name == name) = some m ∧ m.path.toList = [] ∧ m.func = some g := by
  cases hi : P.info? t with
  | none => rw [hi] at h; cases h
  | some i =>
    rw [hi] at h
    simp only [Option.map_some, Option.some.injEq] at h
    cases hm : i.methods.find? (fun x => x.name == name) with
    | none => rw [hm] at h; cases h
    | some m =>
      rw [hm] at h
      simp only [Option.map_some, Option.some.injEq, Prod.mk.injEq] at h
      exact ⟨i, rfl, m, hm, h.1, h.2⟩
theorem nilchk (P : Program) (t : TypeId) (a : Addr) (x y : ByteArray) (w : World) : (Builtin.ssaWrapNilChk_ #[t] t #[.pointer (some a), .string x, .string y]).run P w = .ok (.pointer (some a)) w := rfl
theorem run_method_row {P : Program} {t e : TypeId} {name : String} {f : FuncId} (h : (P.info? t).map (fun i => (i.methods.find? (fun x => x.name == name)).map fun m => (m.path.toList, m.func)) = some (some ([], some (f, false))))
    (ht : P.underlying t = some (.pointer e)) (he : ∀ w, (isAgg e).run P w = .ok false w) (b : Nat) (v : Value) (w : World) (k : Nat) (hc : w.cell? ⟨b, 0, none⟩ = some v) :
    (method (k + 1) t (.pointer (some ⟨b, 0, none⟩)) name).run P w = .ok (f, v) w := by
  obtain ⟨i, hi, m, hm, hp, hg⟩ := row_of h
  have hp' : m.path = #[] := by rw [← Array.toList_inj]; exact hp
  unfold method
  simp [run_typeInfo w hi, hm, hp', hg, follow, receiverAt, run_underlying ht, Place.get, nilchk, loadVar, he, asAddr, Result.andThen, strVal, hc]
theorem isAgg311 (w : World) : (isAgg 311).run Try.prog w = .ok false w := by kernel_rfl
theorem inv_len (b : Nat) (v : Value) (w : World) (hc : w.cell? ⟨b, 0, none⟩ = some v) : (method 467 327 (.pointer (some ⟨b, 0, none⟩)) "Len").run Try.prog w = .ok (264, v) w := run_method_row m327Len Try.underlying327 isAgg311 b v w 466 hc
theorem inv_less (b : Nat) (v : Value) (w : World) (hc : w.cell? ⟨b, 0, none⟩ = some v) : (method 467 327 (.pointer (some ⟨b, 0, none⟩)) "Less").run Try.prog w = .ok (265, v) w := run_method_row m327Less Try.underlying327 isAgg311 b v w 466 hc
theorem inv_push (b : Nat) (w : World) : (method 467 327 (.pointer (some ⟨b, 0, none⟩)) "Push").run Try.prog w = .ok (267, .pointer (some ⟨b, 0, none⟩)) w := by kernel_rfl
theorem fn267 (v : Array Value) (w : World) : (callFunc 267 v).run Try.prog w = .ok (.enter 267 v) w := by kernel_rfl

/-- The numbers from one on. -/
def rowC (k : Nat) : List Value := (List.range k).map fun i : Nat => .int .u32 ((i : Int) + 1)
theorem rowC_next (k : Nat) : rowC (k + 1) = rowC k ++ [.int .u32 ((k : Int) + 1)] := by simp [rowC, List.range_succ]
theorem rowC_at (k i : Nat) (h : i < k) : (rowC k)[i]? = some (.int .u32 ((i : Int) + 1)) := by simp [rowC, h]
theorem info34 : (Try.prog.info? 34).map (fun i => (i.zero, i.size, i.bytes)) = some (some (.int .u32 0), 1, 4) := by kernel_rfl

set_option maxRecDepth 100000 in
set_option maxHeartbeats 2000000 in
theorem rowLess_any (g n c B : Nat) (i j k : Nat) (w : World) (h : w.ownsRow B 34 1 (.slice (some ⟨g, 0, none⟩) k c) k (rowC k)) (hi : i < k) (hj : j < k) (hk : k ≤ 1000000) (hn : n = k) :
    Calls Try.prog 265 #[.slice (some ⟨g, 0, none⟩) n c, .int .i64 (i : Int), .int .i64 (j : Int)] w fun e w' => e = .returned (.bool (decide (i < j))) ∧ ∃ q, w' = w.drewN q := by
  subst hn
  have c0 := h.cells (g := g) rfl i _ (rowC_at n i hi)
  have c1 := h.cells (g := g) rfl j _ (rowC_at n j hj)
  rw [add_plain, Nat.zero_add] at c0 c1
  have hi0 : (0 : Int) ≤ (i : Int) := by omega
  have hi1 : (i : Int) < (n : Int) := by omega
  have hj0 : (0 : Int) ≤ (j : Int) := by omega
  have hj1 : (j : Int) < (n : Int) := by omega
  clear h
  go_enter Try.func265, Try.ntmps265
  go_wp2_with fail
  go_quiet (fail)
  all_goals
    go_wp2_with fail
    go_ret
    exact ⟨ret_bool (by rw [decide_eq_decide]), _, rfl⟩

set_option maxRecDepth 100000 in
set_option maxHeartbeats 2000000 in
/-- What has the greatest number last stays as it is. -/
theorem up_any (p g c B k : Nat) (w : World) (hc : w.cell? ⟨p, 0, none⟩ = some (.slice (some ⟨g, 0, none⟩) (k + 1) c)) (h : w.ownsRow B 34 1 (.slice (some ⟨g, 0, none⟩) (k + 1) c) (k + 1) (rowC (k + 1))) (hk : k ≤ 100000) :
    Calls Try.prog 233 #[.iface 327 (.pointer (some ⟨p, 0, none⟩)), .int .i64 (k : Int)] w fun e w' => e = .returned (.tuple #[]) ∧ ∃ q, w' = w.drewN q := by
  by_cases hk0 : k = 0
  · subst hk0
    go_enter Try.func233, Try.ntmps233
    go_wp2_with fail
    go_loopw [1] (fun u1 wr => u1 = .int .i64 0 ∧ wr = w) (fun _ _ => 0)
    case atStart => exact ⟨rfl, rfl⟩
    case round =>
      obtain ⟨rfl, rfl⟩ := hrel
      go_wp2_with fail
      go_end0
      exact ⟨rfl, 0, rfl⟩
  · have hl := rowLess_any g (k + 1) c B k ((k - 1) / 2) (k + 1) w h (by omega) (by omega) (by omega) rfl
    have hv := inv_less p (.slice (some ⟨g, 0, none⟩) (k + 1) c) w hc
    have hf := fn265
    have hd : decide (k < (k - 1) / 2) = false := by simp; omega
    rw [hd] at hl
    have HL := Lib.hid hl
    have s1 : IntKind.i64.wrap ((k : Int) - 1) = (k : Int) - 1 := IntWalk.i64_in _ (by omega)
    have s2 : ((k : Int) - 1).tdiv 2 = (((k - 1) / 2 : Nat) : Int) := by
      rw [show (k : Int) - 1 = ((k - 1 : Nat) : Int) by omega]
      rfl
    have s3 : ((((k - 1) / 2 : Nat) : Int) == (k : Int)) = false := by rw [beq_eq_false_iff_ne]; omega
    have s4 : IntKind.i64.wrap (((k - 1) / 2 : Nat) : Int) = (((k - 1) / 2 : Nat) : Int) := IntWalk.i64_in _ (by omega)
    clear hl hd h
    generalize (k - 1) / 2 = q at *
    go_enter Try.func233, Try.ntmps233
    go_wp2_with fail
    go_loopw [1] (fun u1 wr => u1 = .int .i64 k ∧ wr = w) (fun _ _ => 0)
    case atStart => exact ⟨rfl, rfl⟩
    case round =>
      obtain ⟨rfl, rfl⟩ := hrel
      go_wp2_with fail
      refine HL.out.mono ?_
      rintro e w2 ⟨rfl, q2, rfl⟩
      go_wp2_with fail
      go_end0
      exact ⟨rfl, q2, rfl⟩

theorem grownBy_setCell'' (W : World) (B : Nat) (u : Value) : W.grownBy (W.setCell ⟨B, 0, none⟩ u) (some B) := ⟨rfl, rfl, rfl, by simp, fun k _ hk => heap_setCell_other W ⟨B, 0, none⟩ k u (fun e => hk (by simp [e]))⟩
/-- A list of blocks that are free: its row, and a value beside it. -/
def FreeR (w : World) (B p : Nat) (v mv : Value) (k : Nat) : Prop := w.heap[p]? = some (.cells #[v, mv] 313 (0, 0)) ∧ w.ownsRow B 34 1 v k (rowC k)
theorem assert34 (x : Int) (w : World) : (Instr.typeAssert (.iface 34 (.int .u32 x)) 20 34 false).run Try.prog w = .ok (.int .u32 x) w := by kernel_rfl
/-- Maps stay. -/
def MapsStay (w w' : World) : Prop := ∀ (m : Nat) (es : Array MapEntry) (ck : Nat), w.heap[m]? = some (Obj.map es ck) → w'.heap[m]? = some (Obj.map es ck)
theorem MapsStay.trans {a b c : World} (h : MapsStay a b) (k : MapsStay b c) : MapsStay a c := fun m es ck hm => k m es ck (h m es ck hm)

set_option maxRecDepth 100000 in
set_option maxHeartbeats 4000000 in
theorem rowPush_any (B p k : Nat) (v mv : Value) (w : World) (h : FreeR w B p v mv k) (hB : B ≤ w.heap.size) (hp : B ≤ p) (hk : k ≤ 100000) :
    Calls Try.prog 267 #[.pointer (some ⟨p, 0, none⟩), .iface 34 (.int .u32 ((k : Int) + 1))] w fun e w' => e = .returned (.tuple #[]) ∧ (∃ g c, FreeR w' B p (.slice (some ⟨g, 0, none⟩) (k + 1) c) mv (k + 1)) ∧ MapsStay w w' ∧ Below B w w' := by
  obtain ⟨i0, hi, hz0, hz1, hz2⟩ := info_parts info34
  obtain ⟨h1, h2⟩ := h
  have hpl := (Array.getElem?_eq_some_iff.1 h1).1
  have h2d : w.drew.ownsRow B 34 1 v k (rowC k) := h2
  obtain ⟨v', w1, hr, hown, hg, _⟩ := app_new (P := Try.prog) Try.underlying311 hi hz0 hz1 hz2 rfl (by decide) h2d 1 [.int .u32 ((k : Int) + 1)] rfl (by simp [Value.oneCell']) (by unfold maxLen; omega) (by omega) hB
  rw [← rowC_next] at hown
  obtain ⟨g, c, rfl⟩ := own_some hown (by omega)
  have hnb : ∀ j, v.ownBlock = some j → B ≤ j ∧ ∃ cur, w.heap[j]? = some (.cells cur 34 (0, 0)) := by
    intro j e
    rcases h2.2 with ⟨rfl, _⟩ | ⟨g', cap, cur, rfl, hb, hh, _⟩
    · cases e
    · simp only [Value.ownBlock, Option.some.injEq] at e
      subst e
      exact ⟨hb, cur, hh⟩
  have hnp : some p ≠ v.ownBlock := fun e => by
    obtain ⟨-, cur, hh⟩ := hnb p e.symm
    rw [h1] at hh
    cases hh
  have h1' : w1.heap[p]? = some (.cells #[v, mv] 313 (0, 0)) := (hg.block p hpl hnp).trans h1
  have c0 : w.cell? ⟨p, 0, none⟩ = some v := by simp [World.cell?, h1]
  have c1 : w1.cell? ⟨p, 0, none⟩ = some v := by simp [World.cell?, h1']
  have f1 : w1.frozen? ⟨p, 0, none⟩ = false := by simp [World.frozen?, h1']
  have hfin : FreeR (w1.setCell ⟨p, 0, none⟩ (.slice (some ⟨g, 0, none⟩) (k + 1) c)) B p (.slice (some ⟨g, 0, none⟩) (k + 1) c) mv (k + 1) := by
    refine ⟨heap_setCell_same w1 p 0 #[v, mv] 313 _ h1', hown.kept (grownBy_setCell'' w1 p _) (.inr fun e => ?_)⟩
    simp only [Value.ownBlock, Option.some.injEq] at e
    subst e
    rcases hown.2 with ⟨e, _⟩ | ⟨g', cap, cur, e, _, hh, _⟩
    · cases e
    · cases e
      rw [h1'] at hh
      cases hh
  have hms : MapsStay w (w1.setCell ⟨p, 0, none⟩ (.slice (some ⟨g, 0, none⟩) (k + 1) c)) := fun m es ck hm => by
    have hml := (Array.getElem?_eq_some_iff.1 hm).1
    rw [heap_setCell_other _ _ _ _ (by rintro rfl; rw [h1] at hm; cases hm), hg.block m hml fun e => by
      obtain ⟨-, cur, hh⟩ := hnb m e.symm
      rw [hm] at hh
      cases hh]
    exact hm
  have hbB : Below B w (w1.setCell ⟨p, 0, none⟩ (.slice (some ⟨g, 0, none⟩) (k + 1) c)) := (((Below.refl B w).drew).grown hg hB (fun j e => (hnb j e).1)).setCell (p := ⟨p, 0, none⟩) hp _
  have has := assert34 ((k : Int) + 1) w.drew
  have HF := Lib.hid hfin
  have HM := Lib.hid hms
  have HB := Lib.hid hbB
  clear h2 h2d hown hg hfin hms hbB h1 h1' hnb hnp
  go_enter Try.func267, Try.ntmps267
  go_wp2_with fail
  go_region_law (first | (refine step_append_run (o := ⟨some 11, _, _, _, _, _⟩) rfl _ _ _ rfl hr ?_))
  all_goals
    go_wp2_with fail
    go_end0
    exact ⟨rfl, ⟨g, c, HF.out⟩, HM.out, HB.out⟩

set_option maxHeartbeats 1000000 in
theorem rowLen_any (a : Option Addr) (n c : Nat) (w : World) : Calls Try.prog 264 #[.slice a n c] w fun e w' => e = .returned (.int .i64 (n : Int)) ∧ w' = w := by
  go_enter Try.func264, Try.ntmps264
  go_wp2_with fail
  go_ret
  exact ⟨rfl, rfl⟩

set_option maxRecDepth 100000 in
set_option maxHeartbeats 4000000 in
theorem heapPush_any (B p k : Nat) (v mv : Value) (w : World) (h : FreeR w B p v mv k) (hB : B ≤ w.heap.size) (hp : B ≤ p) (hk : k ≤ 100000) :
    Calls Try.prog 230 #[.iface 327 (.pointer (some ⟨p, 0, none⟩)), .iface 34 (.int .u32 ((k : Int) + 1))] w fun e w' => e = .returned (.tuple #[]) ∧ (∃ g c, FreeR w' B p (.slice (some ⟨g, 0, none⟩) (k + 1) c) mv (k + 1)) ∧ MapsStay w w' ∧ Below B w w' := by
  have HP := Lib.hid (rowPush_any B p k v mv w h hB hp hk)
  have hi := inv_push p w
  have hf := fn267
  clear h
  go_enter Try.func230, Try.ntmps230
  go_wp2_with fail
  refine HP.out.mono ?_
  clear HP hi hf
  rintro e w2 ⟨rfl, ⟨g, c, hF⟩, hM, hb⟩
  have hc : w2.cell? ⟨p, 0, none⟩ = some (.slice (some ⟨g, 0, none⟩) (k + 1) c) := by simp [World.cell?, hF.1]
  have hi := inv_len p _ w2 hc
  have hf := fn264
  have HU := Lib.hid (up_any p g c B k w2 hc hF.2 hk)
  have HF := Lib.hid hF
  have HM := Lib.hid hM
  have s1 : IntKind.i64.wrap (((k + 1 : Nat) : Int) - 1) = (k : Int) := by rw [IntWalk.i64_in _ (by omega)]; omega
  have s2 : IntKind.i64.wrap ((k : Int) + 1 - 1) = (k : Int) := by rw [IntWalk.i64_in _ (by omega)]; omega
  clear hF hM
  go_wp2_with fail
  refine (rowLen_any (some ⟨g, 0, none⟩) (k + 1) c w2).mono ?_
  rintro e w3 ⟨rfl, rfl⟩
  go_wp2_with fail
  refine HU.out.mono ?_
  rintro e w4 ⟨rfl, q, rfl⟩
  go_wp2_with fail
  go_end0
  exact ⟨rfl, ⟨g, c, HF.out⟩, HM.out, below_drewN hb q⟩
end Go.Proofs.Ytljbehndnledpaa
