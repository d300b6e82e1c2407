/- The walks of free.New, List.Len, Has, Give, Take; which free block comes is not told. Conditions: those of each theorem. -/
import Derived.Test.YtejhbaeeaejcaaaGreatM4
import Derived.Test.YtejhbaeeaejcaaaGreatM2
namespace Go.Proofs.YtejhbaeeaejcaaaGreat
open Go.RowKit

theorem ownsRow_heap {w w' : World} {B : Nat} {e : TypeId} {k : Nat} {v : Value} {n : Nat} {xs : List Value} (h : w.ownsRow B e k v n xs) (hs : ∀ g, v.ownBlock = some g → w'.heap[g]? = w.heap[g]?) : w'.ownsRow B e k v n xs := by
  refine ⟨h.1, ?_⟩
  rcases h.2 with h2 | ⟨g, cap, cur, hv, hg, hh, r⟩
  · exact .inl h2
  · exact .inr ⟨g, cap, cur, hv, hg, (hs g (by rw [hv]; rfl)).trans hh, r⟩
theorem HeapV.heap {w w' : World} {p : Nat} {v mv : Value} {F : List Nat} (h : HeapV w p v mv F) (hp : w'.heap[p]? = w.heap[p]?) (hs : ∀ g, v.ownBlock = some g → w'.heap[g]? = w.heap[g]?) : HeapV w' p v mv F :=
  ⟨hp.trans h.1, ownsRow_heap h.2 hs⟩
theorem HeapV.row_lt {w : World} {p : Nat} {v mv : Value} {F : List Nat} (h : HeapV w p v mv F) {g : Nat} (hg : v.ownBlock = some g) : g < w.heap.size := by
  rcases h.2.2 with ⟨rfl, _⟩ | ⟨g', cap, cur, rfl, _, hh, _⟩
  · cases hg
  · cases hg
    exact (Array.getElem?_eq_some_iff.1 hh).1
theorem HeapV.plt {w : World} {p : Nat} {v mv : Value} {F : List Nat} (h : HeapV w p v mv F) : p < w.heap.size := (Array.getElem?_eq_some_iff.1 h.1).1
/-- A map's block is none of the list's. -/
theorem HeapV.apart {w : World} {p : Nat} {v mv : Value} {F : List Nat} (h : HeapV w p v mv F) {m : Nat} {L : List Uc} (hm : UMap w m L) : m ≠ p ∧ v.ownBlock ≠ some m := by
  obtain ⟨es, clock, h1, -⟩ := hm
  refine ⟨fun e => ?_, fun e => ?_⟩
  · rw [e, h.1] at h1; cases h1
  · rcases h.2.2 with ⟨rfl, _⟩ | ⟨g', cap, cur, rfl, _, hh, _⟩
    · cases e
    · cases e
      rw [hh] at h1; cases h1
theorem Outs.more {D D' : Nat → Prop} {A B : World} (h : Outs D A B) (hd : ∀ j, D j → D' j) : Outs D' A B := ⟨h.os, h.tape, h.output, h.size, fun j hj hn => h.block j hj (fun e => hn (hd j e))⟩
/-- A map that may not be laid yet. -/
def UMapO (w : World) (om : Option Nat) (L : List Uc) : Prop := (om = none ∧ L = []) ∨ ∃ m, om = some m ∧ UMap w m L
theorem UMapO.look {w : World} {om : Option Nat} {L : List Uc} (h : UMapO w om L) {s : Nat} (hs : s < 4294967296) : (Instr.lookup 81 (.map om) (.int .u32 (s : Int)) false).run Tryz.prog w = .ok (.int .i64 (cntU L s : Nat)) w := by
  rcases h with ⟨rfl, rfl⟩ | ⟨m, rfl, h⟩
  · exact look_nilU hs w
  · exact h.look hs
theorem UMapO.heap {w w' : World} {om : Option Nat} {L : List Uc} (h : UMapO w om L) (hs : ∀ m, om = some m → w'.heap[m]? = w.heap[m]?) : UMapO w' om L := by
  rcases h with h | ⟨m, rfl, h⟩
  · exact .inl h
  · exact .inr ⟨m, rfl, h.heap (hs m rfl)⟩
theorem UMapO.lt {w : World} {om : Option Nat} {L : List Uc} (h : UMapO w om L) {m : Nat} (hm : om = some m) : m < w.heap.size := by
  rcases h with ⟨rfl, -⟩ | ⟨m', rfl, h⟩
  · cases hm
  · cases hm; exact h.lt

/-- A list of free blocks: D: the blocks of memory in which it lies. -/
structure FreeW (w : World) (p : Nat) (F : List Nat) (D : Nat → Prop) : Prop where
  has : ∃ (F0 : List Nat) (v : Value) (om : Option Nat) (L : List Uc), F0.Perm F ∧ HeapV w p v (.map om) F0 ∧ UMapO w om L ∧ (∀ j, D j ↔ j = p ∨ v.ownBlock = some j ∨ om = some j) ∧ ∀ x, cntU L x = if x ∈ F then 1 else 0
  nodup : F.Nodup
  ok : ∀ x ∈ F, 0 < x ∧ x < 4294967296
theorem FreeW.kept {w w' : World} {p : Nat} {F : List Nat} {D : Nat → Prop} (h : FreeW w p F D) (hk : Kept D w w') : FreeW w' p F D := by
  obtain ⟨F0, v, om, L, h1, h2, h3, h4, h5⟩ := h.has
  exact ⟨⟨F0, v, om, L, h1, h2.heap (hk.block _ ((h4 _).2 (.inl rfl))) (fun g hg => hk.block _ ((h4 _).2 (.inr (.inl hg)))), h3.heap (fun m hm => hk.block _ ((h4 _).2 (.inr (.inr hm)))), h4, h5⟩, h.nodup, h.ok⟩
theorem FreeW.lt {w : World} {p : Nat} {F : List Nat} {D : Nat → Prop} (h : FreeW w p F D) : ∀ j, D j → j < w.heap.size := by
  obtain ⟨F0, v, om, L, h1, h2, h3, h4, h5⟩ := h.has
  intro j hj
  rcases (h4 j).1 hj with rfl | hj | hj
  · exact h2.plt
  · exact h2.row_lt hj
  · exact h3.lt hj
theorem FreeW.self {w : World} {p : Nat} {F : List Nat} {D : Nat → Prop} (h : FreeW w p F D) : D p := by
  obtain ⟨F0, v, om, L, h1, h2, h3, h4, h5⟩ := h.has
  exact (h4 p).2 (.inl rfl)

set_option maxRecDepth 100000 in
set_option maxHeartbeats 4000000 in
theorem freeLen_any {w : World} {p : Nat} {F : List Nat} {D : Nat → Prop} (h : FreeW w p F D) (hF : F.length ≤ 1000000) :
    Calls Tryz.prog 38 #[ptrV p] w fun e w' => e = .returned (.int .i64 (F.length : Int)) ∧ w' = w := by
  obtain ⟨F0, v, om, L, h1, h2, h3, h4, h5⟩ := h.has
  have hl := h1.length_eq
  rw [← hl] at hF ⊢
  have c0 : w.cell? ⟨p, 0, none⟩ = some v := by simp [World.cell?, h2.1]
  obtain ⟨a, c, rfl⟩ : ∃ a c, v = .slice a F0.length c := by
    rcases h2.2.2 with ⟨rfl, h0⟩ | ⟨g', cap, cur, rfl, _⟩
    · exact ⟨none, 0, by rw [h0]⟩
    · exact ⟨_, _, rfl⟩
  unfold ptrV
  clear h h1 h2 h3 h4 h5 hl
  go_enter Tryz.func38, Tryz.ntmps38
  go_wp2_with fail
  go_ret
  exact ⟨rfl, rfl⟩

set_option maxRecDepth 100000 in
set_option maxHeartbeats 4000000 in
theorem freeHas_any {w : World} {p : Nat} {F : List Nat} {D : Nat → Prop} (h : FreeW w p F D) (b : Nat) (hb : b < 4294967296) :
    Calls Tryz.prog 40 #[ptrV p, .int .u32 (b : Int)] w fun e w' => e = .returned (.bool (decide (b ∈ F))) ∧ w' = w := by
  obtain ⟨F0, v, om, L, h1, h2, h3, h4, h5⟩ := h.has
  have c1 : w.cell? ⟨p, 1, none⟩ = some (.map om) := by simp [World.cell?, h2.1]
  have hl := h3.look hb
  rw [h5] at hl
  unfold ptrV
  clear h h1 h2 h3 h4 h5
  by_cases hm : b ∈ F
  · rw [if_pos hm] at hl
    have HM := Lib.hid hm
    clear hm
    go_enter Tryz.func40, Tryz.ntmps40
    go_wp2_with fail
    go_ret
    have := HM.out
    exact ⟨by simp [this], rfl⟩
  · rw [if_neg hm] at hl
    have HM := Lib.hid hm
    clear hm
    go_enter Tryz.func40, Tryz.ntmps40
    go_wp2_with fail
    go_ret
    have := HM.out
    exact ⟨by simp [this], rfl⟩

/-- The map is laid. -/
theorem HeapV.mapped {w : World} {p : Nat} {v mv : Value} {F : List Nat} (h : HeapV w p v mv F) :
    HeapV ((w.alloc (.map #[] 0)).setCell ⟨p, 1, none⟩ (.map (some w.heap.size))) p v (.map (some w.heap.size)) F ∧ UMap ((w.alloc (.map #[] 0)).setCell ⟨p, 1, none⟩ (.map (some w.heap.size))) w.heap.size [] ∧ w.grownBy ((w.alloc (.map #[] 0)).setCell ⟨p, 1, none⟩ (.map (some w.heap.size))) (some p) := by
  have hpl := h.plt
  have hne := h.ne
  have h1' : (w.alloc (.map #[] 0)).heap[p]? = some (.cells #[v, mv] 116 (0, 0)) := by rw [Below.heap_alloc _ _ _ hpl]; exact h.1
  refine ⟨⟨heap_setCell_same _ p 1 #[v, mv] 116 _ h1', ownsRow_heap h.2 fun g hg => ?_⟩, (UMap.made w).heap ?_, ⟨rfl, rfl, rfl, by rw [World.size_setCell]; simp, fun j hj hn => ?_⟩⟩
  · rw [heap_setCell_other _ ⟨p, 1, none⟩ g _ (fun e => hne (by rw [hg]; exact congrArg some e.symm)), Below.heap_alloc _ _ _ (h.row_lt hg)]
  · rw [heap_setCell_other _ ⟨p, 1, none⟩ w.heap.size _ (by show w.heap.size ≠ p; omega)]
  · rw [heap_setCell_other _ ⟨p, 1, none⟩ j _ (fun e => hn (by rw [e])), Below.heap_alloc _ _ _ hj]

/-- What Give comes to behind the push. -/
theorem FreeW.given {w w2 w3 : World} {p m b g c : Nat} {F F0 F' : List Nat} {D : Nat → Prop} {v : Value} {om : Option Nat} {L : List Uc}
    (hn : F.Nodup) (hok : ∀ x ∈ F, 0 < x ∧ x < 4294967296) (hb0 : 0 < b) (hb : b < 4294967296) (hnb : b ∉ F) (hperm : F0.Perm F) (hD : ∀ j, D j ↔ j = p ∨ v.ownBlock = some j ∨ om = some j) (hDlt : ∀ j, D j → j < w.heap.size)
    (hL : ∀ x, cntU L x = if x ∈ b :: F then 1 else 0) (hm : om = some m ∨ (om = none ∧ w.heap.size ≤ m)) (hM : UMap w2 m L) (hV : HeapV w2 p v (.map (some m)) F0) (h12 : Outs D w w2)
    (hP : F'.Perm (F0 ++ [b])) (hW : HeapW w3 p g c (.map (some m)) F') (hg : v.ownBlock = some g ∨ w2.heap.size ≤ g) (h23 : Outs (fun j => j = p ∨ v.ownBlock = some j) w2 w3) :
    ∃ D', FreeW w3 p (b :: F) D' ∧ Grew D w D' w3 ∧ Outs D w w3 := by
  have hap := hV.apart hM
  refine ⟨fun j => j = p ∨ j = g ∨ j = m, ⟨⟨F', .slice (some ⟨g, 0, none⟩) F'.length c, some m, L, hP.trans ((List.perm_append_singleton b F0).trans (hperm.cons b)), hW, .inr ⟨m, rfl, hM.heap (h23.block m hM.lt (by simp only [not_or]; exact hap))⟩, fun j => ?_, hL⟩, ?_, ?_⟩, ⟨fun j hj => ?_, fun j hj => ?_⟩, h12.trans h23 fun j hj => .inl ((hD j).2 (by rcases hj with h | h; exact .inl h; exact .inr (.inl h)))⟩
  · simp only [Value.ownBlock, Option.some.injEq]
    constructor
    · rintro (h | h | h)
      · exact .inl h
      · exact .inr (.inl h.symm)
      · exact .inr (.inr h.symm)
    · rintro (h | h | h)
      · exact .inl h
      · exact .inr (.inl h.symm)
      · exact .inr (.inr h.symm)
  · exact List.nodup_cons.2 ⟨hnb, hn⟩
  · intro x hx
    rcases List.mem_cons.1 hx with rfl | hx
    · exact ⟨hb0, hb⟩
    · exact hok x hx
  · rcases hj with rfl | rfl | rfl
    · exact .inl ((hD j).2 (.inl rfl))
    · rcases hg with h | h
      · exact .inl ((hD j).2 (.inr (.inl h)))
      · have := h12.size; exact .inr (by omega)
    · rcases hm with h | ⟨-, h⟩
      · exact .inl ((hD j).2 (.inr (.inr h)))
      · exact .inr h
  · rcases hj with rfl | rfl | rfl
    · exact (Array.getElem?_eq_some_iff.1 hW.1).1
    · exact hW.glt
    · exact Nat.lt_of_lt_of_le hM.lt h23.size
theorem cntU_set : ∀ (L : List Uc) (s v x : Nat), cntU (setU L s v) x = if x = s then v else cntU L x
  | [], s, v, x => by
    unfold setU cntU
    by_cases h : s = x
    · simp [h]
    · rw [if_neg h, if_neg (fun e => h e.symm)]
      rfl
  | q :: L, s, v, x => by
    have ih := cntU_set L s v x
    unfold setU
    by_cases h : q.1 = s
    · rw [if_pos h]
      unfold cntU
      by_cases h2 : s = x
      · simp [h2]
      · rw [if_neg h2, if_neg (fun e => h2 e.symm), if_neg (fun e => h2 (h.symm.trans e))]
    · rw [if_neg h]
      simp only [cntU]
      rw [ih]
      by_cases h2 : q.1 = x
      · rw [if_pos h2, if_neg (fun e => h (h2.trans e)), if_pos h2]
      · rw [if_neg h2, if_neg h2]
theorem cntU_del : ∀ {L : List Uc} (s x : Nat), (L.map (·.1)).Nodup → cntU (delU L s) x = if x = s then 0 else cntU L x
  | [], s, x, _ => by simp [delU, cntU]
  | q :: L, s, x, hn => by
    simp only [List.map_cons, List.nodup_cons] at hn
    have ih := cntU_del (L := L) s x hn.2
    unfold delU
    by_cases h : q.1 = s
    · rw [if_pos h]
      by_cases h2 : x = s
      · rw [if_pos h2]
        exact cntU_none fun p hp e => hn.1 (List.mem_map.2 ⟨p, hp, (e.trans h2).trans h.symm⟩)
      · rw [if_neg h2]
        unfold cntU
        rw [if_neg (fun e => h2 (e.symm.trans h))]
        cases L <;> rfl
    · rw [if_neg h]
      simp only [cntU]
      rw [ih]
      by_cases h2 : q.1 = x
      · rw [if_pos h2, if_neg (fun e => h (h2.trans e)), if_pos h2]
      · rw [if_neg h2, if_neg h2]

set_option maxRecDepth 100000 in
set_option maxHeartbeats 4000000 in
theorem give_any {w : World} {p : Nat} {F : List Nat} {D : Nat → Prop} (h : FreeW w p F D) (b : Nat) (hb0 : 0 < b) (hb : b < 4294967296) (hnb : b ∉ F) (hF : F.length < 100000) :
    Calls Tryz.prog 63 #[ptrV p, .int .u32 (b : Int)] w fun e w' => e = .returned (.bool true) ∧ ∃ D', FreeW w' p (b :: F) D' ∧ Grew D w D' w' ∧ Outs D w w' := by
  have hlt := h.lt
  obtain ⟨F0, v, om, L, h1, h2, h3, h4, h5⟩ := h.has
  have hn := h.nodup
  have hok := h.ok
  have h0 : ((b : Int) == 0) = false := by rw [beq_eq_false_iff_ne]; omega
  have c1 : w.cell? ⟨p, 1, none⟩ = some (.map om) := by simp [World.cell?, h2.1]
  have f1 : w.frozen? ⟨p, 1, none⟩ = false := by simp [World.frozen?, h2.1]
  have hpl := h2.plt
  have hl0 := h1.length_eq
  have hl := h3.look hb
  rw [h5, if_neg hnb] at hl
  have hL : ∀ x, cntU (setU L b 1) x = if x ∈ b :: F then 1 else 0 := fun x => by
    rw [cntU_set, h5]
    by_cases e : x = b
    · simp [e]
    · simp [e]
  clear h
  unfold ptrV
  rcases h3 with ⟨rfl, rfl⟩ | ⟨m, rfl, hM⟩
  · have he := eqlU_nil w
    have hmm := @run_makeMap Tryz.prog
    obtain ⟨hVA, hMA, hgA⟩ := h2.mapped
    have f2 : (w.alloc (.map #[] 0)).frozen? ⟨p, 1, none⟩ = false := by rw [World.frozen?_of_block (w := w)]; exact f1; exact Below.heap_alloc _ _ _ hpl
    have c2 : (w.alloc (.map #[] 0)).cell? ⟨p, 1, none⟩ = some (.map none) := by rw [World.cell?_of_block (w := w)]; exact c1; exact Below.heap_alloc _ _ _ hpl
    obtain ⟨w2, hput, hM2, hg, hsz⟩ := hMA.put (s := b) (v := 1) hb (by omega)
    have hapA := hVA.apart hMA
    have hV2 : HeapV w2 p v (.map (some w.heap.size)) F0 := hVA.heap (hg.block p hVA.plt (fun e => hapA.1 (Option.some.inj e).symm)) (fun g hgg => hg.block g (hVA.row_lt hgg) (fun e => hapA.2 (hgg.trans e)))
    have h12 : Outs D w w2 := (Outs.turn hgA ((h4 p).2 (.inl rfl))).trans (Outs.turn (D := fun j => j = w.heap.size) hg rfl) (fun j hj => .inr (by rw [hj]; exact Nat.le_refl _))
    have cA : ((w.alloc (.map #[] 0)).setCell ⟨p, 1, none⟩ (.map (some w.heap.size))).cell? ⟨p, 1, none⟩ = some (.map (some w.heap.size)) := by simp [World.cell?, hVA.1]
    rw [World.setCell_alloc_past (w := w) (.map #[] 0) p 1 (.map (some w.heap.size)) hpl] at hput cA
    have HP := Lib.hid (heapPush_any hV2 b (by omega))
    have HFIN := Lib.hid (fun (w3 : World) g c F' => FreeW.given (w3 := w3) (g := g) (c := c) (F' := F') hn hok hb0 hb hnb h1 h4 hlt hL (.inr ⟨rfl, Nat.le_refl _⟩) hM2 hV2 h12)
    clear h2 hVA hMA hM2 hg hgA h12 hV2 hapA hn hok hnb h1 h4 h5 hlt hL hsz hl0
    go_enter Tryz.func63, Tryz.ntmps63
    go_wp2_with (at_mapUpdate; refine wpList_mapUpdate_run rfl _ _ _ _ rfl hput ?_)
    refine HP.out.mono ?_
    clear HP
    rintro e w3 ⟨rfl, ⟨g, c, F', hP, hW, hg⟩, hO⟩
    have HH := Lib.hid (HFIN.out w3 g c F' hP hW hg hO)
    clear hP hW hg hO
    go_wp2_with fail
    go_ret
    exact ⟨rfl, HH.out⟩
  · have he := eqlU_some m w
    obtain ⟨w2, hput, hM2, hg, hsz⟩ := hM.put (s := b) (v := 1) hb (by omega)
    have hapA := h2.apart hM
    have hV2 : HeapV w2 p v (.map (some m)) F0 := h2.heap (hg.block p h2.plt (fun e => hapA.1 (Option.some.inj e).symm)) (fun g hgg => hg.block g (h2.row_lt hgg) (fun e => hapA.2 (hgg.trans e)))
    have h12 : Outs D w w2 := Outs.turn hg ((h4 m).2 (.inr (.inr rfl)))
    have HP := Lib.hid (heapPush_any hV2 b (by omega))
    have HFIN := Lib.hid (fun (w3 : World) g c F' => FreeW.given (w3 := w3) (g := g) (c := c) (F' := F') hn hok hb0 hb hnb h1 h4 hlt hL (.inl rfl) hM2 hV2 h12)
    clear h2 hM hM2 hg h12 hV2 hapA hn hok hnb h1 h4 h5 hlt hL hsz hl0
    go_enter Tryz.func63, Tryz.ntmps63
    go_wp2_with (at_mapUpdate; refine wpList_mapUpdate_run rfl _ _ _ _ rfl hput ?_)
    refine HP.out.mono ?_
    clear HP
    rintro e w3 ⟨rfl, ⟨g, c, F', hP, hW, hg⟩, hO⟩
    have HH := Lib.hid (HFIN.out w3 g c F' hP hW hg hO)
    clear hP hW hg hO
    go_wp2_with fail
    go_ret
    exact ⟨rfl, HH.out⟩

theorem FreeW.made (w : World) : FreeW (w.alloc (.cells #[.slice none 0 0, .map none] 116)) w.heap.size [] (fun j => j = w.heap.size) :=
  ⟨⟨[], .slice none 0 0, none, [], List.Perm.refl _, ⟨heap_alloc_new w _, rfl, .inl ⟨rfl, rfl⟩⟩, .inl ⟨rfl, rfl⟩, fun j => by simp [Value.ownBlock], fun x => by simp [cntU]⟩, List.nodup_nil, by simp⟩

/-- The numbers from 1 on, the last first. -/
def upto : Nat → List Nat
  | 0 => []
  | n + 1 => (n + 1) :: upto n
theorem mem_upto : ∀ {n x : Nat}, x ∈ upto n ↔ 0 < x ∧ x ≤ n
  | 0, x => by simp [upto]; omega
  | n + 1, x => by simp only [upto, List.mem_cons, mem_upto (n := n)]; omega
theorem upto_len : ∀ n, (upto n).length = n
  | 0 => rfl
  | n + 1 => by simp [upto, upto_len n]

set_option maxRecDepth 100000 in
set_option maxHeartbeats 4000000 in
theorem freeNew_any (n : Nat) (w : World) (hn : n ≤ 4096) :
    Calls Tryz.prog 42 #[.int .i64 (n : Int)] w fun e w' => ∃ p D, e = .returned (.tuple #[ptrV p, .int .i64 0]) ∧ FreeW w' p (upto n) D ∧ (∀ j, D j → w.heap.size ≤ j) ∧ Below w.heap.size w w' := by
  have hn0 : ¬ ((n : Int) < 0) := by omega
  have hn1 : ¬ ((4096 : Int) < (n : Int)) := by omega
  have HF0 := Lib.hid (FreeW.made w)
  have hb0 : Below w.heap.size w (w.alloc (.cells #[.slice none 0 0, .map none] 116)) := (Below.refl _ _).alloc (Nat.le_refl _) _
  go_enter Tryz.func42, Tryz.ntmps42
  go_wp2_with fail
  go_loopw [15] (fun u15 wr => ∃ (i : Nat) (D : Nat → Prop), i ≤ n ∧ u15 = .int .i64 i ∧ FreeW wr w.heap.size (upto i) D ∧ (∀ j, D j → w.heap.size ≤ j) ∧ Below w.heap.size w wr) (fun u15 _ => n - (intOf u15).toNat)
  case atStart => exact ⟨0, _, by omega, rfl, HF0.out, fun j hj => by rw [hj]; exact Nat.le_refl _, hb0⟩
  case round =>
    obtain ⟨i, D, hi, rfl, hF, hD, hbw⟩ := hrel
    by_cases hlt : i < n
    · have hu := upto_len i
      have HG := Lib.hid (give_any hF (i + 1) (by omega) (by omega) (fun e => by have := mem_upto.1 e; omega) (by omega))
      have hi1 : (i : Int) < (n : Int) := by omega
      have s1 : IntKind.i64.wrap ((i : Int) + 1) = ((i + 1 : Nat) : Int) := by rw [IntWalk.i64_in _ (by omega)]; omega
      have s2 : IntKind.u32.wrap ((i + 1 : Nat) : Int) = ((i + 1 : Nat) : Int) := by simp [IntKind.wrap, IntKind.signed, IntKind.bits]; omega
      have HD := Lib.hid (And.intro hF.lt (And.intro hD hbw))
      unfold ptrV at HG
      clear hF hD hu
      go_wp2_with fail
      refine HG.out.mono ?_
      rintro e w2 ⟨rfl, D2, hF2, hg2, ho2⟩
      have HF2 := Lib.hid hF2
      have HR : Hid ((∀ j, D2 j → w.heap.size ≤ j) ∧ Below w.heap.size w w2) := Lib.hid ⟨fun j hj => by
        rcases hg2.new j hj with h | h
        · exact HD.out.2.1 j h
        · have := HD.out.2.2.size; omega, ⟨ho2.os.trans HD.out.2.2.os, ho2.tape.trans HD.out.2.2.tape, ho2.output.trans HD.out.2.2.output, Nat.le_trans HD.out.2.2.size ho2.size, fun j hj => (ho2.block j (by have := HD.out.2.2.size; omega) (fun e => by have := HD.out.2.1 j e; omega)).trans (HD.out.2.2.block j hj)⟩⟩
      clear hF2 hg2 ho2
      go_wp2_with fail
      go_roundw
      case rel => exact ⟨i + 1, D2, by omega, by go_num, HF2.out, HR.out.1, HR.out.2⟩
      case measure => simp [intOf]; omega
    · obtain rfl : n = i := by omega
      have HH := Lib.hid (And.intro hF (And.intro hD hbw))
      clear hF hD hbw
      go_wp2_with fail
      go_ret2
      exact ⟨_, D, rfl, HH.out.1, HH.out.2.1, HH.out.2.2⟩

/-- A block that nobody has is taken: which, is not told. -/
theorem FreeW.taken {w w2 w3 : World} {p m x g c : Nat} {F F' : List Nat} {D : Nat → Prop} {om : Option Nat} {L : List Uc}
    (h : FreeW w p F D) (hx : (x :: F').Perm F) (hD : ∀ j, D j ↔ j = p ∨ j = g ∨ om = some j) (hom : om = some m) (hL : ∀ y, cntU L y = if y ∈ F then 1 else 0) (hW : HeapW w2 p g c (.map om) F') (hM : UMap w2 m L) (hM3 : UMap w3 m (delU L x)) (h23 : w2.grownBy w3 (some m)) :
    FreeW w3 p (F.erase x) D := by
  subst hom
  have hxF : x ∈ F := hx.subset (List.mem_cons_self)
  have hap := (show HeapV w2 p (.slice (some ⟨g, 0, none⟩) F'.length c) (.map (some m)) F' from hW).apart hM
  have hV : HeapV w3 p (.slice (some ⟨g, 0, none⟩) F'.length c) (.map (some m)) F' := (show HeapV w2 p (.slice (some ⟨g, 0, none⟩) F'.length c) (.map (some m)) F' from hW).heap (h23.block p (Array.getElem?_eq_some_iff.1 hW.1).1 (fun e => hap.1 (Option.some.inj e).symm)) (fun j hj => h23.block j (by cases hj; exact hW.glt) (fun e => hap.2 (hj.trans e)))
  refine ⟨⟨F', .slice (some ⟨g, 0, none⟩) F'.length c, some m, delU L x, ?_, hV, .inr ⟨m, rfl, hM3⟩, fun j => ?_, fun y => ?_⟩, h.nodup.erase x, fun y hy => h.ok y (List.mem_of_mem_erase hy)⟩
  · exact ((hx.symm.erase x).trans (by rw [List.erase_cons_head])).symm
  · rw [hD]
    simp only [Value.ownBlock, Option.some.injEq]
    constructor
    · rintro (h | h | h)
      · exact .inl h
      · exact .inr (.inl h.symm)
      · exact .inr (.inr h)
    · rintro (h | h | h)
      · exact .inl h
      · exact .inr (.inl h.symm)
      · exact .inr (.inr h)
  · rw [cntU_del x y hM.nodup, hL]
    simp only [h.nodup.mem_erase_iff]
    by_cases e : y = x
    · simp [e]
    · simp [e]

set_option maxRecDepth 100000 in
set_option maxHeartbeats 4000000 in
theorem freeTake_none {w : World} {p : Nat} {D : Nat → Prop} (h : FreeW w p [] D) :
    Calls Tryz.prog 48 #[ptrV p] w fun e w' => e = .returned (.tuple #[.int .u32 0, .bool false]) ∧ w' = w := by
  obtain ⟨F0, v, om, L, h1, h2, h3, h4, h5⟩ := h.has
  obtain rfl := List.perm_nil.1 h1
  obtain ⟨a, c, rfl⟩ : ∃ a c, v = .slice a 0 c := by
    rcases h2.2.2 with ⟨rfl, h0⟩ | ⟨g', cap, cur, rfl, _⟩
    · exact ⟨none, 0, rfl⟩
    · exact ⟨_, _, rfl⟩
  have c0 : w.cell? ⟨p, 0, none⟩ = some (.slice a 0 c) := by simp [World.cell?, h2.1]
  unfold ptrV
  clear h h1 h2 h3 h4 h5
  go_enter Tryz.func48, Tryz.ntmps48
  go_wp2_with fail
  go_ret2
  exact ⟨rfl, rfl⟩

set_option maxRecDepth 100000 in
set_option maxHeartbeats 4000000 in
theorem freeTake_some {w : World} {p : Nat} {F : List Nat} {D : Nat → Prop} (h : FreeW w p F D) (hne : F ≠ []) (hF : F.length < 100000) :
    Calls Tryz.prog 48 #[ptrV p] w fun e w' => ∃ x : Nat, e = .returned (.tuple #[.int .u32 (x : Int), .bool true]) ∧ x ∈ F ∧ FreeW w' p (F.erase x) D ∧ Outs D w w' := by
  have HH := Lib.hid h
  obtain ⟨F0, v, om, L, h1, h2, h3, h4, h5⟩ := h.has
  have hlen := h1.length_eq
  have hne0 : F0 ≠ [] := fun e => hne (by rw [e] at h1; exact List.nil_perm.1 h1)
  obtain ⟨g, c, rfl, hW⟩ := h2.row hne0
  obtain ⟨m, rfl, hM⟩ : ∃ m, om = some m ∧ UMap w m L := by
    rcases h3 with ⟨rfl, rfl⟩ | h
    · obtain ⟨x, hx⟩ := List.exists_mem_of_ne_nil _ hne
      have := h5 x
      rw [if_pos hx] at this
      simp [cntU] at this
    · exact h
  have hpos := List.length_pos_iff.2 hne0
  have c0 := hW.cell
  have c1 : w.cell? ⟨p, 1, none⟩ = some (.map (some m)) := by simp [World.cell?, hW.1]
  have z0 : ((F0.length : Int) == 0) = false := by rw [beq_eq_false_iff_ne]; omega
  have z1 : ¬ F0 = [] := hne0
  have HP := Lib.hid (heapPop_any hW hne0 (by omega))
  have hap := h2.apart hM
  have HK := Lib.hid (And.intro h1 (And.intro h4 (And.intro h5 (And.intro hM hap))))
  unfold ptrV
  clear h h1 h2 h4 h5 hM hW hap h3 hlen hne hpos
  generalize F0.length = n at *
  go_enter Tryz.func48, Tryz.ntmps48
  go_wp2_with fail
  refine HP.out.mono ?_
  clear HP c0
  rintro e w2 ⟨x, F', rfl, hP, hW2, hO⟩
  obtain ⟨h1, h4, h5, hM, hap⟩ := HK.out
  have hM2 : UMap w2 m L := hM.heap (hO.block m hM.lt (by
    rintro (e | e)
    · exact hap.1 e
    · exact hap.2 (by rw [e]; rfl)))
  have c2 : w2.cell? ⟨p, 1, none⟩ = some (.map (some m)) := by simp [World.cell?, hW2.1]
  have hxF : x ∈ F := h1.subset (hP.subset List.mem_cons_self)
  obtain ⟨w3, hdel, hM3, hg3, hs3⟩ := hM2.del (s := x) (HH.out.ok x hxF).2 4
  have hD : ∀ j, D j ↔ j = p ∨ j = g ∨ some m = some j := fun j => by
    rw [h4 j]
    simp only [Value.ownBlock, Option.some.injEq]
    constructor
    · rintro (h | h | h)
      · exact .inl h
      · exact .inr (.inl h.symm)
      · exact .inr (.inr h)
    · rintro (h | h | h)
      · exact .inl h
      · exact .inr (.inl h.symm)
      · exact .inr (.inr h)
  have hF3 := FreeW.taken HH.out (hP.trans h1) hD rfl h5 hW2 hM2 hM3 hg3
  have hO3 : Outs D w w3 := (hO.more fun j hj => (hD j).2 (hj.elim .inl fun h => .inr (.inl h))).trans (Outs.turn hg3 ((hD m).2 (.inr (.inr rfl)))) (fun _ h => .inl h)
  have HFIN := Lib.hid (And.intro hxF (And.intro hF3 hO3))
  have has := assertU (x : Int)
  clear h1 h4 h5 hM hap hM2 hP hW2 hO hM3 hg3 hs3 hF3 hO3 hxF hD
  go_wp2_with ((refine wpList_delete_run rfl _ _ _ _ rfl hdel ?_))
  go_ret2
  exact ⟨x, rfl, HFIN.out.1, HFIN.out.2.1, HFIN.out.2.2⟩
end Go.Proofs.YtejhbaeeaejcaaaGreat
/- The walks of refs.Table's Count, Hold, Drop, Len at a table that lies in an alloc's block. Conditions: those of each theorem. -/
namespace Go.Proofs.YtejhbaeeaejcaaaGreat
open Go.RowKit

/-- The alloc's block: the list, the table (a map and a sum), the sure ones, the late ones, how many. -/
def AB (w : World) (pa : Nat) (a0 : Value) (om : Option Nat) (s : Int) (a3 a4 a5 : Value) : Prop := w.heap[pa]? = some (.cells #[a0, .map om, .int .i64 s, a3, a4, a5] 85 (0, 0))
theorem AB.reads {w : World} {pa : Nat} {a0 : Value} {om : Option Nat} {s : Int} {a3 a4 a5 : Value} (h : AB w pa a0 om s a3 a4 a5) :
    w.cell? ⟨pa, 0, none⟩ = some a0 ∧ w.cell? ⟨pa, 1, none⟩ = some (.map om) ∧ w.cell? ⟨pa, 2, none⟩ = some (.int .i64 s) ∧ w.cell? ⟨pa, 3, none⟩ = some a3 ∧ w.cell? ⟨pa, 4, none⟩ = some a4 ∧ w.cell? ⟨pa, 5, none⟩ = some a5 ∧ ∀ j, w.frozen? ⟨pa, j, none⟩ = false := by
  unfold AB at h
  refine ⟨?_, ?_, ?_, ?_, ?_, ?_, fun j => ?_⟩ <;> simp [World.cell?, World.frozen?, h]
theorem AB.lt {w : World} {pa : Nat} {a0 : Value} {om : Option Nat} {s : Int} {a3 a4 a5 : Value} (h : AB w pa a0 om s a3 a4 a5) : pa < w.heap.size := (Array.getElem?_eq_some_iff.1 h).1
theorem AB.heap {w w' : World} {pa : Nat} {a0 : Value} {om : Option Nat} {s : Int} {a3 a4 a5 : Value} (h : AB w pa a0 om s a3 a4 a5) (hp : w'.heap[pa]? = w.heap[pa]?) : AB w' pa a0 om s a3 a4 a5 := hp.trans h
theorem AB.ne {w : World} {pa : Nat} {a0 : Value} {om : Option Nat} {s : Int} {a3 a4 a5 : Value} (h : AB w pa a0 om s a3 a4 a5) {m : Nat} {L : List Uc} (hm : UMap w m L) : m ≠ pa := by
  obtain ⟨es, clock, h1, -⟩ := hm
  intro e
  rw [e] at h1
  rw [h] at h1
  cases h1
theorem AB.sum {w : World} {pa : Nat} {a0 : Value} {om : Option Nat} {s : Int} {a3 a4 a5 : Value} (h : AB w pa a0 om s a3 a4 a5) (s' : Int) : AB (w.setCell ⟨pa, 2, none⟩ (.int .i64 s')) pa a0 om s' a3 a4 a5 :=
  heap_setCell_same w pa 2 #[a0, .map om, .int .i64 s, a3, a4, a5] 85 _ h
theorem AB.map {w : World} {pa : Nat} {a0 : Value} {om : Option Nat} {s : Int} {a3 a4 a5 : Value} (h : AB w pa a0 om s a3 a4 a5) (om' : Option Nat) : AB (w.setCell ⟨pa, 1, none⟩ (.map om')) pa a0 om' s a3 a4 a5 :=
  heap_setCell_same w pa 1 #[a0, .map om, .int .i64 s, a3, a4, a5] 85 _ h
theorem AB.late {w : World} {pa : Nat} {a0 : Value} {om : Option Nat} {s : Int} {a3 a4 a5 : Value} (h : AB w pa a0 om s a3 a4 a5) (v : Value) : AB (w.setCell ⟨pa, 4, none⟩ v) pa a0 om s a3 v a5 :=
  heap_setCell_same w pa 4 #[a0, .map om, .int .i64 s, a3, a4, a5] 85 _ h

set_option maxRecDepth 100000 in
set_option maxHeartbeats 4000000 in
theorem refsCount_any {w : World} {pa : Nat} {a0 : Value} {om : Option Nat} {s : Int} {a3 a4 a5 : Value} (h : AB w pa a0 om s a3 a4 a5) {L : List Uc} (hm : UMapO w om L) (b : Nat) (hb : b < 4294967296) :
    Calls Tryz.prog 37 #[.pointer (some ⟨pa, 1, none⟩), .int .u32 (b : Int)] w fun e w' => e = .returned (.int .i64 (cntU L b : Nat)) ∧ w' = w := by
  obtain ⟨-, c1, -⟩ := h.reads
  have hl := hm.look hb
  clear h hm
  go_enter Tryz.func37, Tryz.ntmps37
  go_wp2_with fail
  go_ret
  exact ⟨rfl, rfl⟩

set_option maxRecDepth 100000 in
set_option maxHeartbeats 4000000 in
theorem refsLen_any {w : World} {pa : Nat} {a0 : Value} {om : Option Nat} {s : Int} {a3 a4 a5 : Value} (h : AB w pa a0 om s a3 a4 a5) {L : List Uc} (hm : UMapO w om L) :
    Calls Tryz.prog 39 #[.pointer (some ⟨pa, 1, none⟩)] w fun e w' => e = .returned (.int .i64 (L.length : Nat)) ∧ w' = w := by
  obtain ⟨-, c1, -⟩ := h.reads
  rcases hm with ⟨rfl, rfl⟩ | ⟨m, rfl, hm⟩
  · clear h
    go_enter Tryz.func39, Tryz.ntmps39
    go_wp2_with fail
    go_ret
    exact ⟨rfl, rfl⟩
  · have hl := hm.len 3
    clear h hm
    go_enter Tryz.func39, Tryz.ntmps39
    go_wp2_with (refine wpList_len_run rfl _ _ rfl hl ?_)
    go_ret
    exact ⟨rfl, rfl⟩

/-- What Hold leaves. -/
def HeldR (pa : Nat) (a0 : Value) (om : Option Nat) (a3 a4 a5 : Value) (L : List Uc) (b : Nat) (w w' : World) : Prop :=
  ∃ m s', (om = some m ∨ (om = none ∧ w.heap.size ≤ m)) ∧ AB w' pa a0 (some m) s' a3 a4 a5 ∧ UMap w' m (setU L b (cntU L b + 1)) ∧ Outs (fun j => j = pa ∨ om = some j) w w'
theorem HeldR.mk' {w w1 w2 : World} {pa : Nat} {a0 : Value} {om : Option Nat} {s : Int} {a3 a4 a5 : Value} {L : List Uc} {b m : Nat} (hm : om = some m ∨ (om = none ∧ w.heap.size ≤ m)) (h1 : AB w1 pa a0 (some m) s a3 a4 a5) (hM1 : UMap w1 m L) (hM : UMap w2 m (setU L b (cntU L b + 1))) (hg : w1.grownBy w2 (some m)) (h01 : Outs (fun j => j = pa ∨ om = some j) w w1) (s' : Int) :
    HeldR pa a0 om a3 a4 a5 L b w (w2.setCell ⟨pa, 2, none⟩ (.int .i64 s')) := by
  have hne := h1.ne hM1
  have h2 : AB w2 pa a0 (some m) s a3 a4 a5 := h1.heap (hg.block pa h1.lt (fun e => hne (Option.some.inj e).symm))
  refine ⟨m, s', hm, h2.sum s', hM.heap (heap_setCell_other w2 ⟨pa, 2, none⟩ m _ hne), (h01.trans (Outs.turn (D := fun j => j = m) hg rfl) fun j hj => ?_).trans (Outs.turn (D := fun j => j = pa) (grown_cell w2 ⟨pa, 2, none⟩ (.int .i64 s')) rfl) fun j hj => .inl (.inl hj)⟩
  rw [hj]
  rcases hm with h | ⟨-, h⟩
  · exact .inl (.inr h)
  · exact .inr h
theorem AB.mapped {w : World} {pa : Nat} {a0 : Value} {om : Option Nat} {s : Int} {a3 a4 a5 : Value} (h : AB w pa a0 om s a3 a4 a5) :
    AB ((w.alloc (.map #[] 0)).setCell ⟨pa, 1, none⟩ (.map (some w.heap.size))) pa a0 (some w.heap.size) s a3 a4 a5 ∧ UMap ((w.alloc (.map #[] 0)).setCell ⟨pa, 1, none⟩ (.map (some w.heap.size))) w.heap.size [] ∧ Outs (fun j => j = pa ∨ om = some j) w ((w.alloc (.map #[] 0)).setCell ⟨pa, 1, none⟩ (.map (some w.heap.size))) := by
  have hpl := h.lt
  have h1 : AB (w.alloc (.map #[] 0)) pa a0 om s a3 a4 a5 := h.heap (Below.heap_alloc _ _ _ hpl)
  refine ⟨h1.map _, (UMap.made w).heap (heap_setCell_other _ ⟨pa, 1, none⟩ w.heap.size _ (by show w.heap.size ≠ pa; omega)), ⟨rfl, rfl, rfl, by rw [World.size_setCell]; simp, fun j hj hn => ?_⟩⟩
  rw [heap_setCell_other _ ⟨pa, 1, none⟩ j _ (fun e => hn (.inl e)), Below.heap_alloc _ _ _ hj]

set_option maxRecDepth 100000 in
set_option maxHeartbeats 4000000 in
theorem refsHold_any {w : World} {pa : Nat} {a0 : Value} {om : Option Nat} {s : Int} {a3 a4 a5 : Value} (h : AB w pa a0 om s a3 a4 a5) {L : List Uc} (hm : UMapO w om L) (b : Nat) (hb0 : 0 < b) (hb : b < 4294967296) (hc : cntU L b < 1000000) :
    Calls Tryz.prog 49 #[.pointer (some ⟨pa, 1, none⟩), .int .u32 (b : Int)] w fun e w' => (∃ v, e = .returned v) ∧ HeldR pa a0 om a3 a4 a5 L b w w' := by
  obtain ⟨-, c1, c2, -, -, -, fz⟩ := h.reads
  have f1 := fz 1
  have f2 := fz 2
  have hpl := h.lt
  have h0 : ((b : Int) == 0) = false := by rw [beq_eq_false_iff_ne]; omega
  have sw : IntKind.i64.wrap ((cntU L b : Nat) + 1 : Int) = ((cntU L b + 1 : Nat) : Int) := by rw [IntWalk.i64_in _ (by omega)]; omega
  clear fz
  rcases hm with ⟨rfl, rfl⟩ | ⟨m, rfl, hm⟩
  · have he := eqlU_nil w
    have hmm := @run_makeMap Tryz.prog
    obtain ⟨hA, hMA, hO⟩ := h.mapped
    have g2 : (w.alloc (.map #[] 0)).frozen? ⟨pa, 1, none⟩ = false := by rw [World.frozen?_of_block (w := w)]; exact f1; exact Below.heap_alloc _ _ _ hpl
    have d2 : (w.alloc (.map #[] 0)).cell? ⟨pa, 1, none⟩ = some (.map none) := by rw [World.cell?_of_block (w := w)]; exact c1; exact Below.heap_alloc _ _ _ hpl
    have hlA := hMA.look hb
    have hr := hA.reads
    obtain ⟨w2, hput, hM2, hg, hsz⟩ := hMA.put (s := b) (v := cntU [] b + 1) hb (by omega)
    have hA2 := hA.heap (hg.block pa hA.lt (fun e => hA.ne hMA (Option.some.inj e).symm))
    obtain ⟨-, e1, e2, -, -, -, ez⟩ := hA2.reads
    have ef := ez 2
    have HM3 := Lib.hid hM2
    have HFIN := Lib.hid (fun s' => HeldR.mk' (.inr ⟨rfl, Nat.le_refl _⟩) hA hMA hM2 hg hO s')
    obtain ⟨cA, -⟩ : ((w.alloc (.map #[] 0)).setCell ⟨pa, 1, none⟩ (.map (some w.heap.size))).cell? ⟨pa, 1, none⟩ = some (.map (some w.heap.size)) ∧ True := ⟨hr.2.1, trivial⟩
    rw [World.setCell_alloc_past (w := w) (.map #[] 0) pa 1 (.map (some w.heap.size)) hpl] at hput cA hlA
    have hmX : UMap (w2.setCell ⟨pa, 2, none⟩ (.int .i64 (wrap64 (s + 1)))) w.heap.size (setU [] b (cntU [] b + 1)) := hM2.heap (heap_setCell_other w2 ⟨pa, 2, none⟩ w.heap.size _ (by show w.heap.size ≠ pa; omega))
    have hlX := hmX.look hb
    clear h hA hMA hM2 hg hO hr hsz hA2 ez hmX
    go_enter Tryz.func49, Tryz.ntmps49
    go_wp2_with (at_mapUpdate; refine wpList_mapUpdate_run rfl _ _ _ _ rfl hput ?_)
    go_ret
    exact ⟨⟨_, rfl⟩, HFIN.out _⟩
  · have he := eqlU_some m w
    have hl := hm.look hb
    obtain ⟨w2, hput, hM2, hg, hsz⟩ := hm.put (s := b) (v := cntU L b + 1) hb (by omega)
    have hA2 := h.heap (hg.block pa h.lt (fun e => h.ne hm (Option.some.inj e).symm))
    obtain ⟨-, e1, e2, -, -, -, ez⟩ := hA2.reads
    have ef := ez 2
    have HFIN := Lib.hid (fun s' => HeldR.mk' (.inl rfl) h hm hM2 hg (Outs.refl _ w) s')
    have hmX : UMap (w2.setCell ⟨pa, 2, none⟩ (.int .i64 (wrap64 (s + 1)))) m (setU L b (cntU L b + 1)) := hM2.heap (heap_setCell_other w2 ⟨pa, 2, none⟩ m _ (h.ne hm))
    have hlX := hmX.look hb
    clear h hM2 hg hsz hA2 ez hmX hm
    generalize cntU L b = n at *
    go_enter Tryz.func49, Tryz.ntmps49
    go_wp2_with (at_mapUpdate; refine wpList_mapUpdate_run rfl _ _ _ _ rfl hput ?_)
    go_ret
    exact ⟨⟨_, rfl⟩, HFIN.out _⟩

/-- What Drop leaves of a block that is held more than once, and of one that is held once. -/
def DroppedR (pa : Nat) (a0 : Value) (m : Nat) (a3 a4 a5 : Value) (L' : List Uc) (w w' : World) : Prop :=
  ∃ s', AB w' pa a0 (some m) s' a3 a4 a5 ∧ UMap w' m L' ∧ Outs (fun j => j = pa ∨ j = m) w w'
set_option maxRecDepth 100000 in
set_option maxHeartbeats 4000000 in
theorem refsDrop_more {w : World} {pa : Nat} {a0 : Value} {m : Nat} {s : Int} {a3 a4 a5 : Value} (h : AB w pa a0 (some m) s a3 a4 a5) {L : List Uc} (hm : UMap w m L) (b n : Nat) (hb : b < 4294967296) (hc : cntU L b = n + 2) (hn : n < 1000000) :
    Calls Tryz.prog 83 #[.pointer (some ⟨pa, 1, none⟩), .int .u32 (b : Int)] w fun e w' => e = .returned (.tuple #[.int .i64 ((n + 1 : Nat) : Int), .bool true]) ∧ DroppedR pa a0 m a3 a4 a5 (setU L b (n + 1)) w w' := by
  obtain ⟨-, c1, c2, -, -, -, fz⟩ := h.reads
  have f2 := fz 2
  have hl := hm.look hb
  have hne := h.ne hm
  rw [hc] at hl
  obtain ⟨w2, hput, hM2, hg, hsz⟩ := hm.put (s := b) (v := n + 1) hb (by omega)
  have hA2 := h.heap (hg.block pa h.lt (fun e => hne (Option.some.inj e).symm))
  obtain ⟨-, e1, e2, -, -, -, ez⟩ := hA2.reads
  have ef := ez 2
  have hmX : UMap (w2.setCell ⟨pa, 2, none⟩ (.int .i64 (wrap64 (s - 1)))) m (setU L b (n + 1)) := hM2.heap (heap_setCell_other w2 ⟨pa, 2, none⟩ m _ hne)
  have hlX := hmX.look hb
  rw [cntU_set, if_pos rfl] at hlX
  have HF := Lib.hid (show DroppedR pa a0 m a3 a4 a5 (setU L b (n + 1)) w (w2.setCell ⟨pa, 2, none⟩ (.int .i64 (wrap64 (s - 1)))) from ⟨_, hA2.sum _, hmX, (Outs.turn hg (.inr rfl)).trans (Outs.turn (D := fun j => j = pa) (grown_cell w2 ⟨pa, 2, none⟩ (.int .i64 (wrap64 (s - 1)))) rfl) fun j hj => .inl (.inl hj)⟩)
  have z0 : (((n + 2 : Nat) : Int) == 0) = false := by rw [beq_eq_false_iff_ne]; omega
  have s1 : IntKind.i64.wrap (((n + 2 : Nat) : Int) - 1) = ((n + 1 : Nat) : Int) := by rw [IntWalk.i64_in _ (by omega)]; omega
  have z1 : (0 : Int) < ((n + 1 : Nat) : Int) := by omega
  obtain ⟨x, hx⟩ : ∃ x, x = n + 1 := ⟨_, rfl⟩
  obtain ⟨y, hy⟩ : ∃ y, y = n + 2 := ⟨_, rfl⟩
  rw [← hx] at s1 z1 hput hlX HF ⊢
  rw [← hy] at hl z0 s1
  clear h hm hM2 hg hsz hA2 ez fz hmX hne hc hx hy
  go_enter Tryz.func83, Tryz.ntmps83
  go_wp2_with (at_mapUpdate; refine wpList_mapUpdate_run rfl _ _ _ _ rfl hput ?_)
  go_ret2
  exact ⟨rfl, HF.out⟩
theorem delU_set : ∀ {L : List Uc} {b v : Nat}, 0 < cntU L b → delU (setU L b v) b = delU L b
  | [], b, v, h => by simp [cntU] at h
  | q :: L, b, v, h => by
    unfold setU
    by_cases e : q.1 = b
    · rw [if_pos e]
      simp [delU, e]
    · rw [if_neg e]
      unfold cntU at h
      rw [if_neg e] at h
      simp only [delU]
      rw [if_neg e, if_neg e, delU_set h]
set_option maxRecDepth 100000 in
set_option maxHeartbeats 4000000 in
theorem refsDrop_last {w : World} {pa : Nat} {a0 : Value} {m : Nat} {s : Int} {a3 a4 a5 : Value} (h : AB w pa a0 (some m) s a3 a4 a5) {L : List Uc} (hm : UMap w m L) (b : Nat) (hb : b < 4294967296) (hc : cntU L b = 1) :
    Calls Tryz.prog 83 #[.pointer (some ⟨pa, 1, none⟩), .int .u32 (b : Int)] w fun e w' => e = .returned (.tuple #[.int .i64 0, .bool true]) ∧ DroppedR pa a0 m a3 a4 a5 (delU L b) w w' := by
  obtain ⟨-, c1, c2, -, -, -, fz⟩ := h.reads
  have f2 := fz 2
  have hl := hm.look hb
  have hne := h.ne hm
  rw [hc] at hl
  obtain ⟨w2, hput, hM2, hg, hsz⟩ := hm.put (s := b) (v := 0) hb (by omega)
  have hA2 := h.heap (hg.block pa h.lt (fun e => hne (Option.some.inj e).symm))
  obtain ⟨-, e1, e2, -, -, -, ez⟩ := hA2.reads
  have ef := ez 2
  have hmX : UMap (w2.setCell ⟨pa, 2, none⟩ (.int .i64 (wrap64 (s - 1)))) m (setU L b 0) := hM2.heap (heap_setCell_other w2 ⟨pa, 2, none⟩ m _ hne)
  have hAX := hA2.sum (wrap64 (s - 1))
  have hlX := hmX.look hb
  rw [cntU_set, if_pos rfl] at hlX
  obtain ⟨w3, hdel, hM3, hg3, hs3⟩ := hmX.del (s := b) hb 4
  rw [delU_set (by omega)] at hM3
  have hA3 := hAX.heap (hg3.block pa hAX.lt (fun e => hne (Option.some.inj e).symm))
  have HF := Lib.hid (show DroppedR pa a0 m a3 a4 a5 (delU L b) w w3 from ⟨_, hA3, hM3, ((Outs.turn hg (.inr rfl)).trans (Outs.turn (D := fun j => j = pa) (grown_cell w2 ⟨pa, 2, none⟩ (.int .i64 (wrap64 (s - 1)))) rfl) fun j hj => .inl (.inl hj)).trans (Outs.turn (D := fun j => j = m) hg3 rfl) fun j hj => .inl (.inr hj)⟩)
  have s1 : IntKind.i64.wrap (((1 : Nat) : Int) - 1) = ((0 : Nat) : Int) := by rw [IntWalk.i64_in _ (by omega)]; omega
  clear h hm hM2 hg hsz hA2 ez fz hmX hne hc hAX hM3 hg3 hs3 hA3
  go_enter Tryz.func83, Tryz.ntmps83
  go_wp2_with (first | (at_mapUpdate; refine wpList_mapUpdate_run rfl _ _ _ _ rfl hput ?_) | (refine wpList_delete_run rfl _ _ _ _ rfl hdel ?_))
  go_ret2
  exact ⟨rfl, HF.out⟩
end Go.Proofs.YtejhbaeeaejcaaaGreat
/- The walks of alloc.New, Take, Hold, Drop, Count at an alloc of which nothing is sure. Conditions: those of each theorem. -/
namespace Go.Proofs.YtejhbaeeaejcaaaGreat
open Go.RowKit

/-- An alloc of which nothing is sure and nothing waits: F: what is free; L: how often each other one is held; D: its blocks of memory. -/
structure AllocW (w : World) (pa : Nat) (F : List Nat) (L : List Uc) (n : Nat) (D : Nat → Prop) : Prop where
  has : ∃ (pf : Nat) (om : Option Nat) (s : Int) (m : Nat) (Df : Nat → Prop), AB w pa (ptrV pf) om s (.map (some m)) (.slice none 0 0) (.int .i64 (n : Int)) ∧ FreeW w pf F Df ∧ UMapO w om L ∧ UMap w m [] ∧ (∀ j, D j ↔ j = pa ∨ Df j ∨ om = some j ∨ j = m) ∧ ¬ Df pa ∧ ¬ Df m ∧ ∀ j, om = some j → ¬ Df j ∧ j ≠ m
  pos : ∀ p ∈ L, 0 < p.2
theorem AllocW.kept {w w' : World} {pa : Nat} {F : List Nat} {L : List Uc} {n : Nat} {D : Nat → Prop} (h : AllocW w pa F L n D) (hk : Kept D w w') : AllocW w' pa F L n D := by
  obtain ⟨pf, om, s, m, Df, h1, h2, h3, h4, h5, h6, h7, h8⟩ := h.has
  exact ⟨⟨pf, om, s, m, Df, h1.heap (hk.block _ ((h5 _).2 (.inl rfl))), h2.kept (hk.less fun j hj => (h5 j).2 (.inr (.inl hj))), h3.heap (fun j hj => hk.block _ ((h5 j).2 (.inr (.inr (.inl hj))))), h4.heap (hk.block _ ((h5 m).2 (.inr (.inr (.inr rfl))))), h5, h6, h7, h8⟩, h.pos⟩
theorem AllocW.lt {w : World} {pa : Nat} {F : List Nat} {L : List Uc} {n : Nat} {D : Nat → Prop} (h : AllocW w pa F L n D) : ∀ j, D j → j < w.heap.size := by
  obtain ⟨pf, om, s, m, Df, h1, h2, h3, h4, h5, h6, h7, h8⟩ := h.has
  intro j hj
  rcases (h5 j).1 hj with rfl | hj | hj | rfl
  · exact h1.lt
  · exact h2.lt j hj
  · exact h3.lt hj
  · exact h4.lt
theorem AllocW.nodup {w : World} {pa : Nat} {F : List Nat} {L : List Uc} {n : Nat} {D : Nat → Prop} (h : AllocW w pa F L n D) : (L.map (·.1)).Nodup := by
  obtain ⟨pf, om, s, m, Df, h1, h2, h3, h4, h5, h6, h7, h8⟩ := h.has
  rcases h3 with ⟨-, rfl⟩ | ⟨m', -, h⟩
  · simp
  · exact h.nodup
theorem AllocW.fnodup {w : World} {pa : Nat} {F : List Nat} {L : List Uc} {n : Nat} {D : Nat → Prop} (h : AllocW w pa F L n D) : F.Nodup := by
  obtain ⟨pf, om, s, m, Df, h1, h2, h3, h4, h5, h6, h7, h8⟩ := h.has
  exact h2.nodup
theorem AllocW.fok {w : World} {pa : Nat} {F : List Nat} {L : List Uc} {n : Nat} {D : Nat → Prop} (h : AllocW w pa F L n D) : ∀ x ∈ F, 0 < x ∧ x < 4294967296 := by
  obtain ⟨pf, om, s, m, Df, h1, h2, h3, h4, h5, h6, h7, h8⟩ := h.has
  exact h2.ok
theorem AllocW.self {w : World} {pa : Nat} {F : List Nat} {L : List Uc} {n : Nat} {D : Nat → Prop} (h : AllocW w pa F L n D) : D pa := by
  obtain ⟨pf, om, s, m, Df, h1, h2, h3, h4, h5, h6, h7, h8⟩ := h.has
  exact (h5 pa).2 (.inl rfl)
theorem pos_set {L : List Uc} {b v : Nat} (h : ∀ p ∈ L, 0 < p.2) (hv : 0 < v) : ∀ p ∈ setU L b v, 0 < p.2 := by
  induction L with
  | nil =>
    intro p hp
    simp only [setU, List.mem_singleton] at hp
    rw [hp]; exact hv
  | cons q L ih =>
    intro p hp
    unfold setU at hp
    by_cases e : q.1 = b
    · rw [if_pos e] at hp
      rcases List.mem_cons.1 hp with rfl | hp
      · exact hv
      · exact h p (List.mem_cons_of_mem _ hp)
    · rw [if_neg e] at hp
      rcases List.mem_cons.1 hp with rfl | hp
      · exact h _ List.mem_cons_self
      · exact ih (fun p hp => h p (List.mem_cons_of_mem _ hp)) p hp
theorem pos_del {L : List Uc} {b : Nat} (h : ∀ p ∈ L, 0 < p.2) : ∀ p ∈ delU L b, 0 < p.2 := by
  induction L with
  | nil => intro p hp; cases hp
  | cons q L ih =>
    intro p hp
    unfold delU at hp
    by_cases e : q.1 = b
    · rw [if_pos e] at hp
      exact h p (List.mem_cons_of_mem _ hp)
    · rw [if_neg e] at hp
      rcases List.mem_cons.1 hp with rfl | hp
      · exact h _ List.mem_cons_self
      · exact ih (fun p hp => h p (List.mem_cons_of_mem _ hp)) p hp

/-- Behind a call that turned the list alone. -/
theorem Outs.keeps {D E : Nat → Prop} {A B : World} (h : Outs D A B) {j : Nat} (hj : j < A.heap.size) (hn : ¬ D j) : B.heap[j]? = A.heap[j]? := h.block j hj hn
theorem AllocW.freed {w w' : World} {pa pf : Nat} {F' : List Nat} {L : List Uc} {n : Nat} {D Df Df' : Nat → Prop} {om : Option Nat} {s : Int} {m : Nat}
    (h1 : AB w pa (ptrV pf) om s (.map (some m)) (.slice none 0 0) (.int .i64 (n : Int))) (hf : FreeW w' pf F' Df') (h3 : UMapO w om L) (h4 : UMap w m []) (h5 : ∀ j, D j ↔ j = pa ∨ Df j ∨ om = some j ∨ j = m) (h6 : ¬ Df pa) (h7 : ¬ Df m) (h8 : ∀ j, om = some j → ¬ Df j ∧ j ≠ m)
    (hp : ∀ p ∈ L, 0 < p.2) (hg : Grew Df w Df' w') (ho : Outs Df w w') : ∃ D', AllocW w' pa F' L n D' ∧ Grew D w D' w' ∧ Outs D w w' ∧ ∀ j, D' j ↔ j = pa ∨ Df' j ∨ om = some j ∨ j = m := by
  have hpl := h1.lt
  have hml := h4.lt
  have hol : ∀ j, om = some j → j < w.heap.size := fun j hj => h3.lt hj
  refine ⟨fun j => j = pa ∨ Df' j ∨ om = some j ∨ j = m, ⟨⟨pf, om, s, m, Df', h1.heap (ho.block pa hpl h6), hf, h3.heap (fun j hj => ho.block j (hol j hj) (h8 j hj).1), h4.heap (ho.block m hml h7), fun j => Iff.rfl, ?_, ?_, ?_⟩, hp⟩, ⟨fun j hj => ?_, fun j hj => ?_⟩, ho.more fun j hj => (h5 j).2 (.inr (.inl hj)), fun j => Iff.rfl⟩
  · intro e
    rcases hg.new pa e with h | h
    · exact h6 h
    · omega
  · intro e
    rcases hg.new m e with h | h
    · exact h7 h
    · omega
  · intro j hj
    refine ⟨fun e => ?_, (h8 j hj).2⟩
    rcases hg.new j e with h | h
    · exact (h8 j hj).1 h
    · have := hol j hj; omega
  · rcases hj with rfl | hj | hj | rfl
    · exact .inl ((h5 _).2 (.inl rfl))
    · rcases hg.new j hj with h | h
      · exact .inl ((h5 _).2 (.inr (.inl h)))
      · exact .inr h
    · exact .inl ((h5 _).2 (.inr (.inr (.inl hj))))
    · exact .inl ((h5 _).2 (.inr (.inr (.inr rfl))))
  · rcases hj with rfl | hj | hj | rfl
    · exact Nat.lt_of_lt_of_le hpl ho.size
    · exact hg.lt j hj
    · exact Nat.lt_of_lt_of_le (hol j hj) ho.size
    · exact Nat.lt_of_lt_of_le hml ho.size
/-- Behind a call that turned the table alone. -/
theorem AllocW.tabled {w w' : World} {pa pf : Nat} {F : List Nat} {L' : List Uc} {n : Nat} {D Df : Nat → Prop} {om : Option Nat} {s : Int} {m m' : Nat}
    (h1 : AB w pa (ptrV pf) om s (.map (some m)) (.slice none 0 0) (.int .i64 (n : Int))) (hf : FreeW w pf F Df) (h4 : UMap w m []) (h5 : ∀ j, D j ↔ j = pa ∨ Df j ∨ om = some j ∨ j = m) (h6 : ¬ Df pa) (h7 : ¬ Df m) (h8 : ∀ j, om = some j → ¬ Df j ∧ j ≠ m)
    (hp : ∀ p ∈ L', 0 < p.2) (hm' : om = some m' ∨ (om = none ∧ w.heap.size ≤ m')) {s' : Int} (h1' : AB w' pa (ptrV pf) (some m') s' (.map (some m)) (.slice none 0 0) (.int .i64 (n : Int))) (h3' : UMap w' m' L') (ho : Outs (fun j => j = pa ∨ om = some j) w w') :
    ∃ D', AllocW w' pa F L' n D' ∧ Grew D w D' w' ∧ Outs D w w' := by
  have hml := h4.lt
  have hfl := hf.lt
  have hpl := h1.lt
  have hmpa : m ≠ pa := h1.ne h4
  have hm'f : ¬ Df m' ∧ m' ≠ m := by
    rcases hm' with h | ⟨-, h⟩
    · exact h8 m' h
    · exact ⟨fun e => by have := hfl m' e; omega, by omega⟩
  have hFk : FreeW w' pf F Df := hf.kept (ho.kept hfl fun j hj e => by
    rcases e with e | e
    · rw [e] at hj; exact h6 hj
    · exact (h8 j e).1 hj)
  refine ⟨fun j => j = pa ∨ Df j ∨ some m' = some j ∨ j = m, ⟨⟨pf, some m', s', m, Df, h1', hFk, .inr ⟨m', rfl, h3'⟩, h4.heap (ho.block m hml fun e => ?_), fun j => Iff.rfl, h6, h7, fun j hj => by cases hj; exact hm'f⟩, hp⟩, ⟨fun j hj => ?_, fun j hj => ?_⟩, ho.more fun j hj => ?_⟩
  · rcases e with e | e
    · exact hmpa e
    · exact (h8 m e).2 rfl
  · rcases hj with rfl | hj | hj | rfl
    · exact .inl ((h5 _).2 (.inl rfl))
    · exact .inl ((h5 _).2 (.inr (.inl hj)))
    · cases hj
      rcases hm' with h | ⟨-, h⟩
      · exact .inl ((h5 _).2 (.inr (.inr (.inl h))))
      · exact .inr h
    · exact .inl ((h5 _).2 (.inr (.inr (.inr rfl))))
  · rcases hj with rfl | hj | hj | rfl
    · exact Nat.lt_of_lt_of_le hpl ho.size
    · exact Nat.lt_of_lt_of_le (hfl j hj) ho.size
    · cases hj; exact h3'.lt
    · exact Nat.lt_of_lt_of_le hml ho.size
  · rcases hj with hj | hj
    · exact (h5 j).2 (.inl hj)
    · exact (h5 j).2 (.inr (.inr (.inl hj)))

set_option maxRecDepth 100000 in
set_option maxHeartbeats 4000000 in
theorem allocNew_any (n : Nat) (w : World) (hn : n ≤ 4096) :
    Calls Tryz.prog 19 #[.int .i64 (n : Int)] w fun e w' => ∃ pa D, e = .returned (.tuple #[ptrV pa, .int .i64 0]) ∧ AllocW w' pa (upto n) [] n D ∧ (∀ j, D j → w.heap.size ≤ j) ∧ Below w.heap.size w w' := by
  have HN := Lib.hid (freeNew_any n w hn)
  have hmm := @run_makeMap Tryz.prog
  go_enter Tryz.func19, Tryz.ntmps19
  go_wp2_with fail
  refine HN.out.mono ?_
  rintro e w2 ⟨p, Df, rfl, hF, hD, hb2⟩
  have HH := Lib.hid (And.intro hF (And.intro hD hb2))
  unfold ptrV
  clear hF hD hb2
  go_wp2_with fail
  go_ret2
  obtain ⟨hF, hD, hb2⟩ := HH.out
  have hs1 : (w2.alloc (.map #[] 0)).heap.size = w2.heap.size + 1 := by simp
  have hx := heap_alloc_new (w2.alloc (.map #[] 0)) (.cells #[.pointer (some ⟨p, 0, none⟩), .map none, .int .i64 0, .map (some w2.heap.size), .slice none 0 0, .int .i64 (n : Int)] 85)
  rw [hs1] at hx
  have hb4 : Below w2.heap.size w2 ((w2.alloc (.map #[] 0)).alloc (.cells #[.pointer (some ⟨p, 0, none⟩), .map none, .int .i64 0, .map (some w2.heap.size), .slice none 0 0, .int .i64 (n : Int)] 85)) := ((Below.refl _ _).alloc (Nat.le_refl _) _).alloc (by omega) _
  refine ⟨w2.heap.size + 1, fun j => j = w2.heap.size + 1 ∨ Df j ∨ none = some j ∨ j = w2.heap.size, rfl, ⟨⟨p, none, 0, w2.heap.size, Df, hx, hF.kept (Kept.of_below hb4 hF.lt), .inl ⟨rfl, rfl⟩, (UMap.made w2).heap (Below.heap_alloc _ _ _ (by omega)), fun j => Iff.rfl, fun e => ?_, fun e => ?_, by simp⟩, by simp⟩, fun j hj => ?_, hb2.trans (hb4.mono hb2.size)⟩
  · have := hF.lt _ e; omega
  · have := hF.lt _ e; omega
  · have := hb2.size
    rcases hj with rfl | hj | hj | rfl
    · omega
    · exact hD j hj
    · cases hj
    · omega

set_option maxRecDepth 100000 in
set_option maxHeartbeats 4000000 in
theorem allocTake_none {w : World} {pa : Nat} {L : List Uc} {n : Nat} {D : Nat → Prop} (h : AllocW w pa [] L n D) :
    Calls Tryz.prog 27 #[ptrV pa] w fun e w' => e = .returned (.tuple #[.int .u32 0, .int .i64 30]) ∧ w' = w := by
  obtain ⟨pf, om, s, m, Df, h1, h2, h3, h4, h5, h6, h7, h8⟩ := h.has
  obtain ⟨c0, -⟩ := h1.reads
  have HT := Lib.hid (freeTake_none h2)
  unfold ptrV at c0 HT ⊢
  clear h h1 h2 h3 h4 h5 h6 h7 h8
  go_enter Tryz.func27, Tryz.ntmps27
  go_wp2_with fail
  refine HT.out.mono ?_
  rintro e w2 ⟨rfl, rfl⟩
  go_wp2_with fail
  go_ret2
  exact ⟨rfl, rfl⟩

set_option maxRecDepth 100000 in
set_option maxHeartbeats 4000000 in
theorem allocTake_some {w : World} {pa : Nat} {F : List Nat} {L : List Uc} {n : Nat} {D : Nat → Prop} (h : AllocW w pa F L n D) (hne : F ≠ []) (hF : F.length < 100000) (hc : ∀ x ∈ F, cntU L x < 1000000) :
    Calls Tryz.prog 27 #[ptrV pa] w fun e w' => ∃ (x : Nat) (D' : Nat → Prop), e = .returned (.tuple #[.int .u32 (x : Int), .int .i64 0]) ∧ x ∈ F ∧ AllocW w' pa (F.erase x) (setU L x (cntU L x + 1)) n D' ∧ Grew D w D' w' ∧ Outs D w w' := by
  have hpos := h.pos
  obtain ⟨pf, om, s, m, Df, h1, h2, h3, h4, h5, h6, h7, h8⟩ := h.has
  obtain ⟨c0, -⟩ := h1.reads
  have HT := Lib.hid (freeTake_some h2 hne hF)
  have HK := Lib.hid (And.intro h1 (And.intro h2 (And.intro h3 (And.intro h4 (And.intro h5 (And.intro h6 (And.intro h7 h8)))))))
  unfold ptrV at c0 HT ⊢
  clear h h1 h2 h3 h4 h5 h6 h7 h8 hne
  go_enter Tryz.func27, Tryz.ntmps27
  go_wp2_with fail
  refine HT.out.mono ?_
  clear HT c0
  rintro e w2 ⟨x, rfl, hx, hF2, ho2⟩
  obtain ⟨h1, h2, h3, h4, h5, h6, h7, h8⟩ := HK.out
  have hok := h2.ok x hx
  have h1' := h1.heap (ho2.block pa h1.lt h6)
  have h3' := h3.heap (w' := w2) (fun j hj => ho2.block j (h3.lt hj) (h8 j hj).1)
  have h4' := h4.heap (ho2.block m h4.lt h7)
  have HH := Lib.hid (refsHold_any h1' h3' x hok.1 hok.2 (hc x hx))
  have hg2 : Grew Df w Df w2 := Grew.refl h2.lt ho2.size
  have HFIN := Lib.hid (And.intro hx (fun w3 (hr : HeldR pa (ptrV pf) om (.map (some m)) (.slice none 0 0) (.int .i64 (n : Int)) L x w2 w3) => show ∃ D', AllocW w3 pa (F.erase x) (setU L x (cntU L x + 1)) n D' ∧ Grew D w D' w3 ∧ Outs D w w3 by
    obtain ⟨m', s', hm', hA', hM', hO'⟩ := hr
    have hDlt : ∀ j, D j → j < w.heap.size := fun j hj => by
      rcases (h5 j).1 hj with rfl | hj | hj | rfl
      · exact h1.lt
      · exact h2.lt j hj
      · exact h3.lt hj
      · exact h4.lt
    obtain ⟨D', hAD, hgD, hoD⟩ := AllocW.tabled h1' hF2 h4' h5 h6 h7 h8 (pos_set hpos (by omega)) hm' hA' hM' hO'
    exact ⟨D', hAD, (Grew.refl hDlt ho2.size).trans hgD ho2.size, (ho2.more fun j hj => (h5 j).2 (.inr (.inl hj))).trans hoD fun j hj => .inl hj⟩))
  clear hF2 ho2 hx h1 h2 h3 h4 h5 h6 h7 h8 h1' h3' h4' hg2 hok hpos hc
  go_wp2_with fail
  refine HH.out.mono ?_
  clear HH
  rintro e w3 ⟨⟨v, rfl⟩, hr⟩
  have HR := Lib.hid (HFIN.out.2 w3 hr)
  clear hr
  go_wp2_with fail
  go_ret2
  obtain ⟨D', q1, q2, q3⟩ := HR.out
  exact ⟨x, D', rfl, HFIN.out.1, q1, q2, q3⟩

set_option maxRecDepth 100000 in
set_option maxHeartbeats 4000000 in
theorem allocHold_any {w : World} {pa : Nat} {F : List Nat} {L : List Uc} {n : Nat} {D : Nat → Prop} (h : AllocW w pa F L n D) (b : Nat) (hb0 : 0 < b) (hb : b < 4294967296) (hc0 : 0 < cntU L b) (hc : cntU L b < 1000000) :
    Calls Tryz.prog 51 #[ptrV pa, .int .u32 (b : Int)] w fun e w' => ∃ (D' : Nat → Prop), e = .returned (.int .i64 0) ∧ AllocW w' pa F (setU L b (cntU L b + 1)) n D' ∧ Grew D w D' w' ∧ Outs D w w' := by
  have hpos := h.pos
  obtain ⟨pf, om, s, m, Df, h1, h2, h3, h4, h5, h6, h7, h8⟩ := h.has
  obtain ⟨c0, -⟩ := h1.reads
  have HC := Lib.hid (refsCount_any h1 h3 b hb)
  have HT := Lib.hid (refsHold_any h1 h3 b hb0 hb hc)
  have HFIN := Lib.hid (fun w3 (hr : HeldR pa (ptrV pf) om (.map (some m)) (.slice none 0 0) (.int .i64 (n : Int)) L b w w3) => show ∃ D', AllocW w3 pa F (setU L b (cntU L b + 1)) n D' ∧ Grew D w D' w3 ∧ Outs D w w3 by
    obtain ⟨m', s', hm', hA', hM', hO'⟩ := hr
    exact AllocW.tabled h1 h2 h4 h5 h6 h7 h8 (pos_set hpos (by omega)) hm' hA' hM' hO')
  have z0 : ((cntU L b : Nat) : Int) ≠ 0 := by omega
  have z1 : (((cntU L b : Nat) : Int) == 0) = false := by rw [beq_eq_false_iff_ne]; exact z0
  unfold ptrV at HT ⊢
  clear h h1 h2 h3 h4 h5 h6 h7 h8 c0 hpos hc
  generalize cntU L b = c at *
  go_enter Tryz.func51, Tryz.ntmps51
  go_wp2_with fail
  refine HC.out.mono ?_
  rintro e w2 ⟨rfl, rfl⟩
  go_wp2_with fail
  refine HT.out.mono ?_
  rintro e w3 ⟨⟨v, rfl⟩, hr⟩
  have HR := Lib.hid (HFIN.out w3 hr)
  clear hr
  go_wp2_with fail
  go_ret
  obtain ⟨D', q1, q2, q3⟩ := HR.out
  exact ⟨D', rfl, q1, q2, q3⟩

set_option maxRecDepth 100000 in
set_option maxHeartbeats 4000000 in
theorem allocCount_any {w : World} {pa : Nat} {F : List Nat} {L : List Uc} {n : Nat} {D : Nat → Prop} (h : AllocW w pa F L n D) (b : Nat) (hb : b < 4294967296) :
    Calls Tryz.prog 15 #[ptrV pa, .int .u32 (b : Int)] w fun e w' => e = .returned (.int .i64 (cntU L b : Nat)) ∧ w' = w := by
  obtain ⟨pf, om, s, m, Df, h1, h2, h3, h4, h5, h6, h7, h8⟩ := h.has
  have HC := Lib.hid (refsCount_any h1 h3 b hb)
  unfold ptrV
  clear h h1 h2 h3 h4 h5 h6 h7 h8
  go_enter Tryz.func15, Tryz.ntmps15
  go_wp2_with fail
  refine HC.out.mono ?_
  rintro e w2 ⟨rfl, rfl⟩
  go_wp2_with fail
  go_ret
  exact ⟨rfl, rfl⟩

set_option maxRecDepth 100000 in
set_option maxHeartbeats 4000000 in
theorem allocDrop_more {w : World} {pa : Nat} {F : List Nat} {L : List Uc} {n : Nat} {D : Nat → Prop} (h : AllocW w pa F L n D) (b c : Nat) (hb : b < 4294967296) (hc : cntU L b = c + 2) (hc2 : c < 1000000) :
    Calls Tryz.prog 57 #[ptrV pa, .int .u32 (b : Int)] w fun e w' => ∃ (D' : Nat → Prop), e = .returned (.int .i64 0) ∧ AllocW w' pa F (setU L b (c + 1)) n D' ∧ Grew D w D' w' ∧ Outs D w w' := by
  have hpos := h.pos
  obtain ⟨pf, om, s, m, Df, h1, h2, h3, h4, h5, h6, h7, h8⟩ := h.has
  obtain ⟨m', rfl, hM⟩ : ∃ m', om = some m' ∧ UMap w m' L := by
    rcases h3 with ⟨rfl, rfl⟩ | h
    · simp [cntU] at hc
    · exact h
  have HC := Lib.hid (refsDrop_more h1 hM b c hb hc hc2)
  have HFIN := Lib.hid (fun w3 (hr : DroppedR pa (ptrV pf) m' (.map (some m)) (.slice none 0 0) (.int .i64 (n : Int)) (setU L b (c + 1)) w w3) => show ∃ D', AllocW w3 pa F (setU L b (c + 1)) n D' ∧ Grew D w D' w3 ∧ Outs D w w3 by
    obtain ⟨s', hA', hM', hO'⟩ := hr
    exact AllocW.tabled h1 h2 h4 h5 h6 h7 h8 (pos_set hpos (by omega)) (.inl rfl) hA' hM' (hO'.more fun j hj => hj.elim .inl fun h => .inr (by rw [h])))
  have z1 : (0 : Int) < ((c + 1 : Nat) : Int) := by omega
  unfold ptrV at HC ⊢
  clear h h1 h2 h3 h4 h5 h6 h7 h8 hM hpos hc
  obtain ⟨x, hx⟩ : ∃ x, x = c + 1 := ⟨_, rfl⟩
  rw [← hx] at HC HFIN z1 ⊢
  clear hx
  go_enter Tryz.func57, Tryz.ntmps57
  go_wp2_with fail
  refine HC.out.mono ?_
  rintro e w3 ⟨rfl, hr⟩
  have HR := Lib.hid (HFIN.out w3 hr)
  clear hr
  go_wp2_with fail
  go_ret
  obtain ⟨D', q1, q2, q3⟩ := HR.out
  exact ⟨D', rfl, q1, q2, q3⟩

set_option maxRecDepth 100000 in
set_option maxHeartbeats 4000000 in
theorem allocDrop_last {w : World} {pa : Nat} {F : List Nat} {L : List Uc} {n : Nat} {D : Nat → Prop} (h : AllocW w pa F L n D) (b : Nat) (hb0 : 0 < b) (hb : b < 4294967296) (hc : cntU L b = 1) (hbF : b ∉ F) (hF : F.length < 100000) :
    Calls Tryz.prog 57 #[ptrV pa, .int .u32 (b : Int)] w fun e w' => ∃ (D' : Nat → Prop), e = .returned (.int .i64 0) ∧ AllocW w' pa (b :: F) (delU L b) n D' ∧ Grew D w D' w' ∧ Outs D w w' := by
  have hpos := h.pos
  have hDlt := h.lt
  obtain ⟨pf, om, s, m, Df, h1, h2, h3, h4, h5, h6, h7, h8⟩ := h.has
  obtain ⟨m', rfl, hM⟩ : ∃ m', om = some m' ∧ UMap w m' L := by
    rcases h3 with ⟨rfl, rfl⟩ | h
    · simp [cntU] at hc
    · exact h
  have HC := Lib.hid (refsDrop_last h1 hM b hb hc)
  have HK := Lib.hid (fun w3 (hr : DroppedR pa (ptrV pf) m' (.map (some m)) (.slice none 0 0) (.int .i64 (n : Int)) (delU L b) w w3) => show ∃ D', AllocW w3 pa F (delU L b) n D' ∧ Grew D w D' w3 ∧ Outs D w w3 by
    obtain ⟨s', hA', hM', hO'⟩ := hr
    exact AllocW.tabled h1 h2 h4 h5 h6 h7 h8 (pos_del hpos) (.inl rfl) hA' hM' (hO'.more fun j hj => hj.elim .inl fun h => .inr (by rw [h])))
  clear h h1 h2 h3 h4 h5 h6 h7 h8 hM hpos hc
  unfold ptrV at HC ⊢
  go_enter Tryz.func57, Tryz.ntmps57
  go_wp2_with fail
  refine HC.out.mono ?_
  clear HC
  rintro e w3 ⟨rfl, hr⟩
  obtain ⟨D1, hA1, hg1, ho1⟩ := HK.out w3 hr
  have hs1 := ho1.size
  obtain ⟨pf1, om1, s1, m1, Df1, h1, h2, h3, h4, h5, h6, h7, h8⟩ := hA1.has
  obtain ⟨c0, -, -, c3, -⟩ := h1.reads
  have hl := h4.look hb
  have hl0 : cntU [] b = 0 := rfl
  rw [hl0] at hl
  have HG := Lib.hid (give_any h2 b hb0 hb hbF hF)
  have HFIN := Lib.hid (fun w4 Df' (hf : FreeW w4 pf1 (b :: F) Df') (hg : Grew Df1 w3 Df' w4) (ho : Outs Df1 w3 w4) => show ∃ D', AllocW w4 pa (b :: F) (delU L b) n D' ∧ Grew D w D' w4 ∧ Outs D w w4 by
    obtain ⟨D2, q1, q2, q3, -⟩ := AllocW.freed h1 hf h3 h4 h5 h6 h7 h8 hA1.pos hg ho
    exact ⟨D2, q1, hg1.trans q2 hs1, ho1.trans q3 fun j hj => by
      rcases hg1.new j hj with h | h
      · exact .inl h
      · exact .inr h⟩)
  unfold ptrV at c0 HG
  clear hr hA1 hg1 ho1 h1 h2 h3 h4 h5 h6 h7 h8 HK hDlt hs1 hl0
  go_wp2_with fail
  refine HG.out.mono ?_
  rintro e w4 ⟨rfl, Df', hf, hg, ho⟩
  have HR := Lib.hid (HFIN.out w4 Df' hf hg ho)
  clear hf hg ho
  go_wp2_with fail
  go_ret
  obtain ⟨D', q1, q2, q3⟩ := HR.out
  exact ⟨D', rfl, q1, q2, q3⟩
end Go.Proofs.YtejhbaeeaejcaaaGreat
