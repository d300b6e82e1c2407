/- The walks of free.List.Give at the next number, and of free.New. Conditions: those of each theorem. -/
import Derived.Test.YtljbehndnledpaaFreeHeap
namespace Go.Proofs.Ytljbehndnledpaa
open Go.RowKit Go.Maps

def hasD (k : Nat) : DataW Unit := (List.range k).foldl (fun D (i : Nat) => D.put (.int .u32 ((i : Int) + 1)) (.lit (.int .i64 1))) (.map [])
theorem hasD_next (k : Nat) : hasD (k + 1) = (hasD k).put (.int .u32 ((k : Int) + 1)) (.lit (.int .i64 1)) := by simp [hasD, List.range_succ]
theorem hasD_miss (k : Nat) (x : Int) (hx : (k : Int) < x) (z : DataW Unit) : (hasD k).atKey (.int .u32 x) z = z := by
  induction k with
  | zero => rfl
  | succ k ih =>
    rw [hasD_next, atKey_put_other (by intro e; injection e; omega)]
    exact ih (by omega)
def HasM (w : World) (m k : Nat) : Prop := w.ownsMap Try.prog 34 (plainElem Try.prog 3) m k (hasD k)
theorem wf32 (k : Nat) (hk : k ≤ 100000) : (Lit.int .u32 ((k : Int) + 1)).wf = true := by simp [Lit.wf, IntKind.min, IntKind.max, IntKind.signed, IntKind.bits]; omega
theorem law34 : Keyed Try.prog 34 := int_keyed Try.underlying34
theorem HasM.look {w : World} {m k : Nat} (h : HasM w m k) (hk : k ≤ 100000) : (Instr.lookup 269 (.map (some m)) (.int .u32 ((k : Int) + 1)) false).run Try.prog w = .ok (.int .i64 0) w := by
  obtain ⟨c, hrun, hat, -⟩ := World.ownsMap.lookup_int h law34 Try.underlying269 Try.underlying3 (Try.zeroValue3 w) (keyOf_int_mk Try.underlying34 (wf32 k hk))
  rw [hasD_miss k _ (by omega)] at hat
  have e : (0 : Int) = c := by simpa using hat
  rw [e]
  exact hrun
theorem HasM.put {w : World} {m k : Nat} (h : HasM w m k) (hk : k ≤ 100000) : ∃ w', (Instr.mapUpdate 269 (.map (some m)) (.int .u32 ((k : Int) + 1)) (.int .i64 1)).run Try.prog w = .ok () w' ∧ HasM w' m (k + 1) ∧ w.grownBy w' (some m) := by
  obtain ⟨w', hrun, ho, hg⟩ := World.ownsMap.update h law34 Try.underlying269 (by unfold maxLen; omega) (keyOf_int_mk Try.underlying34 (wf32 k hk)) (plainElem_int Try.underlying3 (a := 1) (by decide))
  rw [← hasD_next] at ho
  exact ⟨w', hrun, ho, hg⟩
theorem HasM.stays {w w' : World} {m k : Nat} (h : HasM w m k) (hs : MapsStay w w') : HasM w' m k := by
  obtain ⟨es, ck, h1, h2⟩ := h
  exact ⟨es, ck, hs m es ck h1, h2⟩
theorem look_nil (x : Int) (w : World) : (Instr.lookup 269 (.map none) (.int .u32 x) false).run Try.prog w = .ok (.int .i64 0) w := by kernel_rfl
theorem FreeR.turn {w w' : World} {B p m : Nat} {v mv : Value} {k : Nat} (h : FreeR w B p v mv k) (hg : w.grownBy w' (some m)) (hm : ∃ es ck, w.heap[m]? = some (Obj.map es ck)) : FreeR w' B p v mv k := by
  obtain ⟨es, ck, hm⟩ := hm
  obtain ⟨h1, h2⟩ := h
  refine ⟨(hg.block p (Array.getElem?_eq_some_iff.1 h1).1 fun e => ?_).trans h1, h2.kept hg ?_⟩
  · cases e
    rw [h1] at hm
    cases hm
  · rcases h2.2 with ⟨rfl, _⟩ | ⟨g, cap, cur, rfl, _, hh, _⟩
    · exact .inl rfl
    · refine .inr fun e => ?_
      simp only [Value.ownBlock, Option.some.injEq] at e
      rw [← e, hh] at hm
      cases hm
/-- A list that has the numbers from one on. -/
def FreeL (w : World) (B p k : Nat) : Prop := ∃ v mv, FreeR w B p v mv k ∧ ((k = 0 ∧ mv = .map none) ∨ ∃ m, mv = .map (some m) ∧ B ≤ m ∧ HasM w m k)

theorem wpList_mapUpdate_run {P : Program} {w : World} {ops : Array Oper} {rest : List Oper} {o : Oper} {a : Act} {Q : Exit → Act → World → Prop} (hgd : o.guard = none) (m x v : Operand) (t : TypeId)
    (ho : o.op = .mapUpdate t m x v) {w' : World} (hrun : (Instr.mapUpdate t (a.eval m) (a.eval x) (a.eval v)).run P w = .ok () w') (h : wpList P ops Q rest (a.put o.dst undef) w') : wpList P ops Q (o :: rest) a w := by
  refine wpList_plain hgd fun K hK => ?_
  unfold Oper.wp
  simp [execOp, ho, hrun, Result.andThen]
  exact hK _ _ h
theorem eql_nil (w : World) : (binOp .eql 269 (.map none) (.map none)).run Try.prog w = .ok (.bool true) w := by kernel_rfl
theorem eql_some (m : Nat) (w : World) : (binOp .eql 269 (.map (some m)) (.map none)).run Try.prog w = .ok (.bool false) w := by kernel_rfl

/-- The map is laid. -/
theorem FreeR.mapped {w : World} {B p k : Nat} {v mv : Value} (h : FreeR w B p v mv k) (hB : B ≤ w.heap.size) (hp : B ≤ p) :
    FreeR ((w.alloc (.map #[] 0)).setCell ⟨p, 1, none⟩ (.map (some w.heap.size))) B p v (.map (some w.heap.size)) k ∧ HasM ((w.alloc (.map #[] 0)).setCell ⟨p, 1, none⟩ (.map (some w.heap.size))) w.heap.size 0 ∧ Below B w ((w.alloc (.map #[] 0)).setCell ⟨p, 1, none⟩ (.map (some w.heap.size))) := by
  obtain ⟨h1, h2⟩ := h
  have hpl := (Array.getElem?_eq_some_iff.1 h1).1
  have h1' : (w.alloc (.map #[] 0)).heap[p]? = some (.cells #[v, mv] 313 (0, 0)) := by rw [Below.heap_alloc _ _ _ hpl]; exact h1
  have g : (w.alloc (.map #[] 0)).grownBy ((w.alloc (.map #[] 0)).setCell ⟨p, 1, none⟩ (.map (some w.heap.size))) (some p) := ⟨rfl, rfl, rfl, by simp, fun k _ hk => heap_setCell_other _ ⟨p, 1, none⟩ k _ (fun e => hk (by simp [e]))⟩
  refine ⟨⟨heap_setCell_same _ p 1 #[v, mv] 313 _ h1', (h2.alloc _).kept g ?_⟩, ?_, ((Below.refl B w).alloc hB _).setCell (p := ⟨p, 1, none⟩) hp _⟩
  · rcases h2.2 with ⟨rfl, _⟩ | ⟨g', cap, cur, rfl, _, hh, _⟩
    · exact .inl rfl
    · refine .inr fun e => ?_
      simp only [Value.ownBlock, Option.some.injEq] at e
      rw [e, h1] at hh
      cases hh
  · exact (World.ownsMap_made w Try.prog 34 _).kept g (fun e => by have := Option.some.inj e; omega)

set_option maxRecDepth 100000 in
set_option maxHeartbeats 4000000 in
theorem give_any (B p k : Nat) (w : World) (h : FreeL w B p k) (hB : B ≤ w.heap.size) (hp : B ≤ p) (hk : k ≤ 10000) :
    Calls Try.prog 219 #[.pointer (some ⟨p, 0, none⟩), .int .u32 ((k : Int) + 1)] w fun e w' => e = .returned (.bool true) ∧ FreeL w' B p (k + 1) ∧ Below B w w' := by
  obtain ⟨v, mv, hF, hmv⟩ := h
  have h0 : (((k : Int) + 1) == 0) = false := by rw [beq_eq_false_iff_ne]; omega
  have c1 : w.cell? ⟨p, 1, none⟩ = some mv := by simp [World.cell?, hF.1]
  have f1 : w.frozen? ⟨p, 1, none⟩ = false := by simp [World.frozen?, hF.1]
  have hpl := (Array.getElem?_eq_some_iff.1 hF.1).1
  rcases hmv with ⟨hk0, rfl⟩ | ⟨m, rfl, hBm, hM⟩
  · have hl := look_nil ((k : Int) + 1) w
    have he := eql_nil w
    have hmm := @run_makeMap Try.prog
    obtain ⟨hFA, hMA, hbA⟩ := hF.mapped hB hp
    have f2 : (w.alloc (.map #[] 0)).frozen? ⟨p, 1, none⟩ = false := by rw [World.frozen?_of_block (w := w)]; exact f1; exact Below.heap_alloc _ _ _ hpl
    have c2 : (w.alloc (.map #[] 0)).cell? ⟨p, 1, none⟩ = some (.map none) := by rw [World.cell?_of_block (w := w)]; exact c1; exact Below.heap_alloc _ _ _ hpl
    have hMk : HasM ((w.alloc (.map #[] 0)).setCell ⟨p, 1, none⟩ (.map (some w.heap.size))) w.heap.size k := by rw [hk0]; exact hMA
    obtain ⟨w2, hput, hM2, hg⟩ := hMk.put (by omega)
    have hobj : ∃ es ck, ((w.alloc (.map #[] 0)).setCell ⟨p, 1, none⟩ (.map (some w.heap.size))).heap[w.heap.size]? = some (Obj.map es ck) := by obtain ⟨es, ck, h1, h2⟩ := hMA; exact ⟨es, ck, h1⟩
    have hF2 := hFA.turn hg hobj
    have hb2 : Below B w w2 := hbA.grown hg (Nat.le_trans hB hbA.size) (fun j e => by cases e; exact hB)
    have cA : ((w.alloc (.map #[] 0)).setCell ⟨p, 1, none⟩ (.map (some w.heap.size))).cell? ⟨p, 1, none⟩ = some (.map (some w.heap.size)) := by simp [World.cell?, hFA.1]
    rw [World.setCell_alloc_past (w := w) (.map #[] 0) p 1 (.map (some w.heap.size)) hpl] at hput cA
    have HP := Lib.hid (heapPush_any B p k v (.map (some w.heap.size)) w2 hF2 (Nat.le_trans hB hb2.size) hp (by omega))
    have HM2 := Lib.hid hM2
    clear hF hFA hMA hMk hM2 hobj hF2 hg hbA hk0
    go_enter Try.func219, Try.ntmps219
    go_wp2_with (at_mapUpdate; refine wpList_mapUpdate_run rfl _ _ _ _ rfl hput ?_)
    refine HP.out.mono ?_
    clear HP
    rintro e w3 ⟨rfl, ⟨g, c, hF3⟩, hs3, hb3⟩
    have HF3 := Lib.hid hF3
    clear hF3
    go_wp2_with fail
    go_ret
    exact ⟨rfl, ⟨_, _, HF3.out, .inr ⟨_, rfl, hB, HM2.out.stays hs3⟩⟩, hb2.trans hb3⟩
  · have hl := hM.look (by omega)
    have he := eql_some m w
    obtain ⟨w2, hput, hM2, hg⟩ := hM.put (by omega)
    have hobj : ∃ es ck, w.heap[m]? = some (Obj.map es ck) := by obtain ⟨es, ck, h1, h2⟩ := hM; exact ⟨es, ck, h1⟩
    have hF2 := hF.turn hg hobj
    have hb2 : Below B w w2 := (Below.refl B w).grown hg hB (fun j e => by cases e; exact hBm)
    have HP := Lib.hid (heapPush_any B p k v (.map (some m)) w2 hF2 (Nat.le_trans hB hb2.size) hp (by omega))
    have HM2 := Lib.hid hM2
    clear hF hM hM2 hobj hF2 hg
    go_enter Try.func219, Try.ntmps219
    go_wp2_with (at_mapUpdate; refine wpList_mapUpdate_run rfl _ _ _ _ rfl hput ?_)
    refine HP.out.mono ?_
    clear HP
    rintro e w3 ⟨rfl, ⟨g, c, hF3⟩, hs3, hb3⟩
    have HF3 := Lib.hid hF3
    clear hF3
    go_wp2_with fail
    go_ret
    exact ⟨rfl, ⟨_, _, HF3.out, .inr ⟨m, rfl, hBm, HM2.out.stays hs3⟩⟩, hb2.trans hb3⟩

set_option maxRecDepth 100000 in
set_option maxHeartbeats 4000000 in
theorem freeNew_any (n : Nat) (w : World) (hn : n ≤ 4096) :
    Calls Try.prog 185 #[.int .i64 (n : Int)] w fun e w' => (∃ p, e = .returned (.tuple #[.pointer (some ⟨p, 0, none⟩), .int .i64 0])) ∧ Below w.heap.size w w' := by
  have hn0 : ¬ ((n : Int) < 0) := by omega
  have hn1 : ¬ ((4096 : Int) < (n : Int)) := by omega
  have hb0 : Below w.heap.size w (w.alloc (.cells #[.slice none 0 0, .map none] 313)) := (Below.refl _ _).alloc (Nat.le_refl _) _
  have hF0 : FreeL (w.alloc (.cells #[.slice none 0 0, .map none] 313)) w.heap.size w.heap.size 0 := ⟨_, _, ⟨heap_alloc_new w _, World.ownsRow_nil _ _ _ _⟩, .inl ⟨rfl, rfl⟩⟩
  have HF0 := Lib.hid hF0
  clear hF0
  go_enter Try.func185, Try.ntmps185
  go_wp2_with fail
  go_loopw [15] (fun u15 wr => ∃ i : Nat, i ≤ n ∧ u15 = .int .i64 i ∧ FreeL wr w.heap.size w.heap.size i ∧ Below w.heap.size w wr) (fun u15 _ => n - (intOf u15).toNat)
  case atStart => exact ⟨0, by omega, rfl, HF0.out, hb0⟩
  case round =>
    obtain ⟨i, hi, rfl, hF, hbw⟩ := hrel
    by_cases hlt : i < n
    · have HG := Lib.hid (give_any w.heap.size w.heap.size i wr hF hbw.size (Nat.le_refl _) (by omega))
      have hi1 : (i : Int) < (n : Int) := by omega
      have s1 : IntKind.i64.wrap ((i : Int) + 1) = (i : Int) + 1 := IntWalk.i64_in _ (by omega)
      have s2 : IntKind.u32.wrap ((i : Int) + 1) = (i : Int) + 1 := by simp [IntKind.wrap, IntKind.signed, IntKind.bits]; omega
      clear hF
      go_wp2_with fail
      refine HG.out.mono ?_
      rintro e w2 ⟨rfl, hF2, hb2⟩
      have HF2 := Lib.hid hF2
      clear hF2
      go_wp2_with fail
      exact ⟨⟨i + 1, by omega, by go_num, HF2.out, hbw.trans hb2⟩, by simp [intOf]; omega⟩
    · obtain rfl : n = i := by omega
      go_wp2_with fail
      go_ret2
      exact ⟨⟨_, rfl⟩, hbw⟩

set_option maxRecDepth 100000 in
set_option maxHeartbeats 4000000 in
theorem allocNew_any (w : World) :
    Calls Try.prog 145 #[.int .i64 200] w fun e w' => (∃ p, e = .returned (.tuple #[.pointer (some ⟨p, 0, none⟩), .int .i64 0])) ∧ Below w.heap.size w w' := by
  have HN := Lib.hid (freeNew_any 200 w (by omega))
  have hmm := @run_makeMap Try.prog
  go_enter Try.func145, Try.ntmps145
  go_wp2_with fail
  refine HN.out.mono ?_
  rintro e w2 ⟨⟨p, rfl⟩, hb2⟩
  go_wp2_with fail
  go_ret2
  exact ⟨⟨_, rfl⟩, (hb2.alloc hb2.size _).alloc (hb2.alloc hb2.size _).size _⟩

set_option maxRecDepth 100000 in
set_option maxHeartbeats 4000000 in
theorem historyNew_any (a : Nat) (w : World) :
    Calls Try.prog 146 #[.pointer (some ⟨a, 0, none⟩)] w fun e w' => ∃ h t, e = .returned (.pointer (some ⟨h, 0, none⟩)) ∧ w'.cell? ⟨h, 0, none⟩ = some (.pointer (some ⟨t, 0, none⟩)) ∧ w'.cell? ⟨h, 1, none⟩ = some (.pointer (some ⟨a, 0, none⟩)) ∧ Below w.heap.size w w' := by
  go_enter Try.func146, Try.ntmps146
  go_wp2_with fail
  go_ret
  have hh := heap_alloc_new (w.alloc (.cells #[.pointer none, .int .i64 0] 277)) (.cells #[.pointer (some ⟨w.heap.size, 0, none⟩), .pointer (some ⟨a, 0, none⟩)] 234)
  rw [show (w.alloc (.cells #[.pointer none, .int .i64 0] 277)).heap.size = w.heap.size + 1 by simp] at hh
  refine ⟨w.heap.size + 1, w.heap.size, rfl, ?_, ?_, ((Below.refl _ _).alloc (Nat.le_refl _) _).alloc (by simp) _⟩
  · unfold World.cell?
    simp only [hh]
    rfl
  · unfold World.cell?
    simp only [hh]
    rfl
end Go.Proofs.Ytljbehndnledpaa
