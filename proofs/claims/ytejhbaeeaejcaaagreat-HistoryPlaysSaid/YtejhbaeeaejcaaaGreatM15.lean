/- The walks of the document's Without and Set at a key that is not there yet, and of Put. Conditions: those of each theorem. -/
import Derived.Test.YtejhbaeeaejcaaaGreatM14
import Derived.Test.YtejhbaeeaejcaaaGreatM8
namespace Go.Proofs.YtejhbaeeaejcaaaGreat
open Go.RowKit

set_option maxRecDepth 100000 in
set_option maxHeartbeats 4000000 in
theorem without_ref {w : World} {a : Option Addr} {n c : Nat} {l : List En} (h : RowE encN 4 w a n l) (hn : n ≤ 1000000) (hr : Rise l) (k : Nat) (hk : k ∉ l.map (·.1)) :
    Calls Tryz.prog 74 #[.slice a n c, keyV k] w fun e w' => e = .returned (.slice a n c) ∧ Below w.heap.size w w' := by
  have hl := h.1
  have H := Lib.hid h
  have HL := Lib.hid hl
  have HG := Lib.hid (fun hm => hk ((findE_get (k := k) hr).2 hm))
  have HLE := Lib.hid (findE_le l k)
  obtain ⟨w1, hw1⟩ : ∃ w1, w1 = w.alloc (.cells #[.int .u16 (kVol k : Int), .int .u32 (kBlk k : Int), .int .u64 (kSeq k : Int)] 27) := ⟨_, rfl⟩
  have hX : w1.heap[w.heap.size]? = some (.cells #[.int .u16 (kVol k : Int), .int .u32 (kBlk k : Int), .int .u64 (kSeq k : Int)] 27 (0, 0)) := by rw [hw1]; exact heap_alloc_new w _
  have hb1 : Below w.heap.size w w1 := by rw [hw1]; exact (Below.refl _ _).alloc (Nat.le_refl _) _
  have hz1 : w1.heap.size = w.heap.size + 1 := by rw [hw1, World.alloc_size]
  have HF := Lib.hid (find_ref (c := c) (h.below hb1 (Nat.le_refl _)) hn k)
  have HX := Lib.hid (And.intro hX (And.intro hb1 hz1))
  obtain ⟨y0', y1', y2'⟩ : w1.cell? ⟨w.heap.size, 0, none⟩ = some (.int .u16 (kVol k : Int)) ∧ w1.cell? ⟨w.heap.size, 1, none⟩ = some (.int .u32 (kBlk k : Int)) ∧ w1.cell? ⟨w.heap.size, 2, none⟩ = some (.int .u64 (kSeq k : Int)) := ⟨cell_of_row w1 _ 0 _ _ _ hX, cell_of_row w1 _ 1 _ _ _ hX, cell_of_row w1 _ 2 _ _ _ hX⟩
  unfold keyV at HF ⊢
  clear h hl hX hb1 hz1 hr hk
  go_enter Tryz.func74, Tryz.ntmps74
  go_wp2_with fail
  rw [← hw1]
  have HW1 := Lib.hid hw1
  clear hw1
  refine HF.out.mono ?_
  rintro e w2 ⟨rfl, hb2⟩
  have hx2 := (hb2.block w.heap.size (by have := HX.out.2.2; omega)).trans HX.out.1
  obtain ⟨z0, z1, z2⟩ : w2.cell? ⟨w.heap.size, 0, none⟩ = some (.int .u16 (kVol k : Int)) ∧ w2.cell? ⟨w.heap.size, 1, none⟩ = some (.int .u32 (kBlk k : Int)) ∧ w2.cell? ⟨w.heap.size, 2, none⟩ = some (.int .u64 (kSeq k : Int)) := ⟨cell_of_row w2 _ 0 _ _ _ hx2, cell_of_row w2 _ 1 _ _ _ hx2, cell_of_row w2 _ 2 _ _ _ hx2⟩
  have HB := Lib.hid (HX.out.2.1.trans (hb2.mono (by have := HX.out.2.2; omega)))
  clear hb2 hx2 y0' y1' y2' HF
  generalize hi : findE l k = i at *
  have HI := Lib.hid hi
  clear hi
  by_cases hin : i = n
  · have e0 : ((i : Int) == (n : Int)) = true := by rw [hin]; simp
    clear hin
    go_wp2_with fail
    go_quiet (fail)
    go_wp2_with fail
    go_ret
    exact ⟨rfl, ⟨HB.out.os, HB.out.tape, HB.out.output, HB.out.size, HB.out.block⟩⟩
  · have hlt : i < n := by have := HLE.out; have := HL.out; omega
    have e0 : ((i : Int) == (n : Int)) = false := by rw [beq_eq_false_iff_ne]; omega
    have hi1 : (i : Int) < (n : Int) := by omega
    have hi0 : (0 : Int) ≤ (i : Int) := by omega
    obtain ⟨x, hx⟩ : ∃ x, l[i]? = some x := ⟨_, List.getElem?_eq_getElem (by have := HL.out; omega)⟩
    obtain ⟨b, o, rfl, hc⟩ := (H.out.below HB.out (Nat.le_refl _)).2 i x hx
    have c0 := hc 0 _ rfl
    have c1 := hc 1 _ rfl
    have c2 := hc 2 _ rfl
    simp only [Nat.add_zero] at c0
    have hq := neqKey x.1 k
    have hxk : ¬ x.1 = k := fun e => HG.out ⟨x, hx, e⟩
    rw [decide_eq_false hxk] at hq
    clear hx hc hin hxk
    go_wp2_with fail
    go_quiet (fail)
    go_wp2_with fail
    go_ret
    exact ⟨rfl, ⟨HB.out.os, HB.out.tape, HB.out.output, HB.out.size, HB.out.block⟩⟩

theorem run_append_of_nil {P : Program} (w : World) (base : Nat) (t ty e : TypeId) (i : TypeInfo) (size : Nat) (ht : P.underlying t = some (.slice e)) (hi : P.info? e = some i)
    (v : Value) (n : Nat) (xs : List Value) (hown : w.ownsRow base e size v n xs) (c : Nat) : (Builtin.append_ #[t, t] ty #[v, .slice none 0 c]).run P w = .ok v w := by
  rcases hown.2 with ⟨rfl, rfl⟩ | ⟨g, cap, cur, rfl, _, _, hnc, _⟩
  · simp [Builtin.append_, run_underlying ht, sizeOf, typeInfo, hi, Builtin.lenOf, Builtin.firstCells]
  · simp [Builtin.append_, run_underlying ht, sizeOf, typeInfo, hi, Builtin.lenOf, Builtin.firstCells, hnc, storeCells]
/-- An append of any row of entries, none among them. -/
theorem OwnE.appAny {w : World} {B : Nat} {v : Value} {l : List En} (h : OwnE encN 4 60 w B v l) {X : Option Addr} {m c : Nat} {l2 : List En} (hs : RowE encN 4 w X m l2) (hX : X ≠ none → ∃ b o, X = some ⟨b, o, none⟩) (hl : l.length + m ≤ 1000000) (hB : B ≤ w.heap.size) :
    ∃ v' w', (∀ ty, (Builtin.append_ #[36, 36] ty #[v, .slice X m c]).run Tryz.prog w = .ok v' w') ∧ OwnE encN 4 60 w' B v' (l ++ l2) ∧ w.grownBy w' v.ownBlock ∧ (v'.ownBlock = v.ownBlock ∨ ∃ g, v'.ownBlock = some g ∧ w.heap.size ≤ g) := by
  obtain ⟨i0, hi, hz0, hz1, hz2⟩ := info_cut infoEn
  cases X with
  | none =>
    have hm : m = 0 := by
      rcases Nat.eq_zero_or_pos m with h0 | h0
      · exact h0
      · obtain ⟨x, hx⟩ : ∃ x, l2[0]? = some x := ⟨_, List.getElem?_eq_getElem (by have := hs.1; omega)⟩
        obtain ⟨b, o, e, -⟩ := hs.2 0 x hx
        cases e
    subst hm
    have hl2 : l2 = [] := List.eq_nil_of_length_eq_zero hs.1
    subst hl2
    exact ⟨v, w, fun ty => run_append_of_nil w B _ ty _ i0 4 Tryz.underlying36 hi v _ _ h c, by rw [List.append_nil]; exact h, World.grownBy.refl w _, .inl rfl⟩
  | some ad =>
    obtain ⟨b, o, e⟩ := hX (by simp)
    cases e
    obtain ⟨v', w', hr, ho, hg, -, hat⟩ := run_append_own_at (P := Tryz.prog) w B 36 36 60 i0 _ 4 24 Tryz.underlying36 hi hz0 hz1 hz2 rfl (by decide) v l.length _ h ⟨b, o, none⟩ m c (cellsE encN l2) (by rw [cellsE_len encN 4 encN_len, hs.1]) (RowE.cells encN_len (by decide) hs) (fun u hu => by
      obtain ⟨x, -, hx⟩ := List.mem_flatMap.1 hu
      exact encN_one x u hx) (by unfold maxLen; omega) (by omega) hB
    refine ⟨v', w', fun ty => hr, ?_, hg, ?_⟩
    · unfold OwnE
      rw [cellsE_app, List.length_append, hs.1]
      exact ho
    · rcases hat with h | h
      · exact .inl h
      · exact .inr ⟨_, h, Nat.le_refl _⟩

/-- A row that is being put together: its own; the row that it is made of; the one that is put between; the box. -/
structure PutS (eb : Nat) (w0 : World) (A : Option Addr) (n : Nat) (l : List En) (e : En) (v : Value) (xs : List En) (sa : Option Addr) (ss : List En) (W : World) : Prop where
  own : OwnE encN 4 60 W (eb + 1) v xs
  src : RowE encN 4 W A n l
  srcA : A ≠ none → ∃ b, A = some ⟨b, 0, none⟩ ∧ b < eb
  sec : RowE encN 4 W sa ss.length ss
  secA : sa ≠ none → ∃ b, sa = some ⟨b, 0, none⟩ ∧ v.ownBlock ≠ some b ∧ b < W.heap.size
  box : W.heap[eb]? = some (.cells #[.int .u16 (kVol e.1 : Int), .int .u32 (kBlk e.1 : Int), .int .u64 (kSeq e.1 : Int), .int .u32 (e.2 : Int)] 60 (0, 0))
  below : Below eb w0 W
section
variable {eb : Nat} {w0 : World} {A : Option Addr} {n : Nat} {l : List En} {e : En} {v : Value} {xs : List En} {sa : Option Addr} {ss : List En} {W : World}
theorem PutS.lt (m : PutS eb w0 A n l e v xs sa ss W) : eb < W.heap.size := (Array.getElem?_eq_some_iff.1 m.box).1
theorem PutS.drew (m : PutS eb w0 A n l e v xs sa ss W) : PutS eb w0 A n l e v xs sa ss W.drew := ⟨m.own, m.src, m.srcA, m.sec, m.secA, m.box, m.below.drew⟩
theorem PutS.cells (m : PutS eb w0 A n l e v xs sa ss W) : W.cell? ⟨eb, 0, none⟩ = some (.int .u16 (kVol e.1 : Int)) ∧ W.cell? ⟨eb, 1, none⟩ = some (.int .u32 (kBlk e.1 : Int)) ∧ W.cell? ⟨eb, 2, none⟩ = some (.int .u64 (kSeq e.1 : Int)) ∧ W.cell? ⟨eb, 3, none⟩ = some (.int .u32 (e.2 : Int)) :=
  ⟨cell_of_row W eb 0 _ _ _ m.box, cell_of_row W eb 1 _ _ _ m.box, cell_of_row W eb 2 _ _ _ m.box, cell_of_row W eb 3 _ _ _ m.box⟩
/-- The one between is laid. -/
theorem PutS.lay (m : PutS eb w0 A n l e v xs sa ss W) : PutS eb w0 A n l e v xs (some ⟨W.heap.size, 0, none⟩) [e] (W.alloc (.cells #[.int .u16 (kVol e.1 : Int), .int .u32 (kBlk e.1 : Int), .int .u64 (kSeq e.1 : Int), .int .u32 (e.2 : Int)] 60)) :=
  ⟨m.own.alloc _, m.src.alloc _, m.srcA, RowE.one W e, fun _ => ⟨_, rfl, fun h => by have := (m.own.lt _ h).2; omega, by rw [World.alloc_size]; omega⟩, by rw [Below.heap_alloc _ _ _ m.lt]; exact m.box, m.below.alloc (by have := m.lt; omega) _⟩
theorem PutS.app (m : PutS eb w0 A n l e v xs sa ss W) {X : Option Addr} {k c : Nat} {ys : List En} (hs : RowE encN 4 W X k ys) (hX : X ≠ none → ∃ b o, X = some ⟨b, o, none⟩) (hl : xs.length + k ≤ 1000000) :
    ∃ v' w', (∀ ty, (Builtin.append_ #[36, 36] ty #[v, .slice X k c]).run Tryz.prog W = .ok v' w') ∧ PutS eb w0 A n l e v' (xs ++ ys) sa ss w' := by
  obtain ⟨v', w', hr, ho, hg, hat⟩ := m.own.appAny (c := c) hs hX hl (by have := m.lt; omega)
  have hkl := m.own.lt
  have hlt := m.lt
  have hkeep : ∀ b, b < W.heap.size → v.ownBlock ≠ some b → w'.heap[b]? = W.heap[b]? := fun b hb hne => hg.block b hb (fun e => hne e.symm)
  refine ⟨v', w', hr, ⟨ho, ?_, m.srcA, ?_, fun h => ?_, ?_, m.below.grown hg (by omega) (fun j hj => by have := (hkl j hj).1; omega)⟩⟩
  · refine ⟨m.src.1, fun i r hi => ?_⟩
    obtain ⟨b, o, hA, hc⟩ := m.src.2 i r hi
    obtain ⟨b', hA', hb'⟩ := m.srcA (by rw [hA]; simp)
    rw [hA] at hA'
    cases hA'
    refine ⟨b, 0, hA, fun j x hx => ?_⟩
    rw [World.cell?_of_block (w := W) (hkeep b (by omega) (fun h => by have := (hkl b h).1; omega))]
    exact hc j x hx
  · refine ⟨m.sec.1, fun i r hi => ?_⟩
    obtain ⟨b, o, hA, hc⟩ := m.sec.2 i r hi
    obtain ⟨b', hA', hne, hb'⟩ := m.secA (by rw [hA]; simp)
    rw [hA] at hA'
    cases hA'
    refine ⟨b, 0, hA, fun j x hx => ?_⟩
    rw [World.cell?_of_block (w := W) (hkeep b hb' hne)]
    exact hc j x hx
  · obtain ⟨b, h1, h2, h3⟩ := m.secA h
    refine ⟨b, h1, fun h4 => ?_, Nat.lt_of_lt_of_le h3 hg.size⟩
    rcases hat with h5 | ⟨g, h5, hge⟩
    · exact h2 (h5.symm.trans h4)
    · rw [h5] at h4
      cases h4
      omega
  · rw [hkeep eb hlt (fun h => by have := (hkl eb h).1; omega)]
    exact m.box
theorem step_appP {ops : Array Oper} {o : Oper} {a : Act} {K : Act → World → Prop} {Q : Exit → Act → World → Prop} {E : Prop} (hg : o.guard = none) (d x : Operand) (hop : o.op = Op.call { callee := Callee.builtin Builtin.append, args := #[d, x], argTypes := #[36, 36] })
    {X : Option Addr} {k c : Nat} {ys : List En} (hd : a.eval d = v) (hx : a.eval x = .slice X k c) (m : PutS eb w0 A n l e v xs sa ss W) (hs : RowE encN 4 W X k ys) (hX : X ≠ none → ∃ b o, X = some ⟨b, o, none⟩) (hl : xs.length + k ≤ 1000000)
    (h : ∀ v' w', PutS eb w0 A n l e v' (xs ++ ys) sa ss w' → K (a.put o.dst v') w') :
    if Region.wanted o (yielded ops a.tmps) = true then Oper.wp Tryz.prog o a W K Q else E := by
  obtain ⟨v', w', hr, m'⟩ := m.app hs hX hl
  exact step_append_runK hg d x _ _ hop _ _ hd hx (hr _) (h v' w' m')
theorem PutS.ad (m : PutS eb w0 A n l e v xs sa ss W) : A ≠ none → ∃ b o, A = some ⟨b, o, none⟩ := fun h => by
  obtain ⟨b, h, -⟩ := m.srcA h
  exact ⟨b, 0, h⟩
end
theorem PutS.new {eb : Nat} {w0 : World} {A : Option Addr} {n : Nat} {l : List En} {e : En} {W : World} {sa : Option Addr} {ss : List En} (src : RowE encN 4 W A n l) (srcA : A ≠ none → ∃ b, A = some ⟨b, 0, none⟩ ∧ b < eb) (sec : RowE encN 4 W sa ss.length ss) (secA : sa ≠ none → ∃ b, sa = some ⟨b, 0, none⟩ ∧ b < W.heap.size)
    (box : W.heap[eb]? = some (.cells #[.int .u16 (kVol e.1 : Int), .int .u32 (kBlk e.1 : Int), .int .u64 (kSeq e.1 : Int), .int .u32 (e.2 : Int)] 60 (0, 0))) (below : Below eb w0 W) : PutS eb w0 A n l e (.slice (some ⟨W.heap.size, 0, none⟩) 0 0) [] sa ss (W.alloc (.cells #[] 60)) := by
  have hlt : eb < W.heap.size := (Array.getElem?_eq_some_iff.1 box).1
  refine ⟨⟨rfl, .inr ⟨W.heap.size, 0, #[], rfl, by omega, heap_alloc_new W _, Nat.le_refl _, by unfold maxLen; omega, rfl, rfl⟩⟩, src.alloc _, srcA, sec.alloc _, fun h => ?_, by rw [Below.heap_alloc _ _ _ hlt]; exact box, below.alloc (by omega) _⟩
  obtain ⟨b, h1, h2⟩ := secA h
  exact ⟨b, h1, fun h3 => by have h4 : W.heap.size = b := Option.some.inj h3; omega, by rw [World.alloc_size]; omega⟩

set_option maxRecDepth 100000 in
set_option maxHeartbeats 8000000 in
theorem set_ref {w : World} {B0 : Nat} {v : Value} {l : List En} (h : OwnE encN 4 60 w B0 v l) (hl : l.length ≤ 100000) (hr : Rise l) (e : En) (hk : e.1 ∉ l.map (·.1)) :
    Calls Tryz.prog 52 #[v, entV e] w fun r w' => ∃ v', r = .returned v' ∧ OwnE encN 4 60 w' w.heap.size v' (setE l e) ∧ Below w.heap.size w w' := by
  obtain ⟨w1, hw1⟩ : ∃ w1, w1 = w.alloc (.cells #[.int .u16 (kVol e.1 : Int), .int .u32 (kBlk e.1 : Int), .int .u64 (kSeq e.1 : Int), .int .u32 (e.2 : Int)] 60) := ⟨_, rfl⟩
  have hX : w1.heap[w.heap.size]? = some (.cells #[.int .u16 (kVol e.1 : Int), .int .u32 (kBlk e.1 : Int), .int .u64 (kSeq e.1 : Int), .int .u32 (e.2 : Int)] 60 (0, 0)) := by rw [hw1]; exact heap_alloc_new w _
  have hb1 : Below w.heap.size w w1 := by rw [hw1]; exact (Below.refl _ _).alloc (Nat.le_refl _) _
  have hz1 : w1.heap.size = w.heap.size + 1 := by rw [hw1, World.alloc_size]
  obtain ⟨A, c, rfl, hrow, hcap, hA⟩ := h.row encN_len
  have hAlt : A ≠ none → ∃ b, A = some ⟨b, 0, none⟩ ∧ b < w.heap.size := fun hne => by
    rcases h.cases with ⟨hv, -⟩ | ⟨g, cap, hv, -, hlt, -⟩
    · exact absurd (by injection hv) hne
    · exact ⟨g, by injection hv, hlt⟩
  have HA := Lib.hid hAlt
  have HNone := Lib.hid (show A = none → l = [] ∧ c = 0 from fun hne => by
    rcases h.cases with ⟨hv, h0⟩ | ⟨g, cap, hv, -, hlt, -⟩
    · exact ⟨h0, by injection hv⟩
    · rw [hne] at hv; injection hv with h1; cases h1)
  have HW := Lib.hid (without_ref (c := c) (hrow.below hb1 (Nat.le_refl _)) (by omega) hr e.1 hk)
  have HFD := Lib.hid (fun W (hW : Below w1.heap.size w1 W) => find_ref (c := c) ((hrow.below hb1 (Nat.le_refl _)).below hW (Nat.le_refl _)) (by omega) e.1)
  have HSET := Lib.hid (findE_set hk)
  have hle := findE_le l e.1
  have HX := Lib.hid (And.intro hX (And.intro hb1 (And.intro hz1 hrow)))
  obtain ⟨y0', y1', y2', y3'⟩ : w1.cell? ⟨w.heap.size, 0, none⟩ = some (.int .u16 (kVol e.1 : Int)) ∧ w1.cell? ⟨w.heap.size, 1, none⟩ = some (.int .u32 (kBlk e.1 : Int)) ∧ w1.cell? ⟨w.heap.size, 2, none⟩ = some (.int .u64 (kSeq e.1 : Int)) ∧ w1.cell? ⟨w.heap.size, 3, none⟩ = some (.int .u32 (e.2 : Int)) := ⟨cell_of_row w1 _ 0 _ _ _ hX, cell_of_row w1 _ 1 _ _ _ hX, cell_of_row w1 _ 2 _ _ _ hX, cell_of_row w1 _ 3 _ _ _ hX⟩
  unfold keyV at HW HFD
  unfold entV
  clear h hX hb1 hz1 hr hk hrow hA hAlt
  go_enter Tryz.func52, Tryz.ntmps52
  go_wp2_with fail
  rw [← hw1]
  have HW1 := Lib.hid hw1
  clear hw1
  refine HW.out.mono ?_
  clear HW
  rintro r w2 ⟨rfl, hb2⟩
  have HF2 := Lib.hid (HFD.out w2 hb2)
  have hx2 := (hb2.block w.heap.size (by have := HX.out.2.2; omega)).trans HX.out.1
  obtain ⟨z0, z1, z2⟩ : w2.cell? ⟨w.heap.size, 0, none⟩ = some (.int .u16 (kVol e.1 : Int)) ∧ w2.cell? ⟨w.heap.size, 1, none⟩ = some (.int .u32 (kBlk e.1 : Int)) ∧ w2.cell? ⟨w.heap.size, 2, none⟩ = some (.int .u64 (kSeq e.1 : Int)) := ⟨cell_of_row w2 _ 0 _ _ _ hx2, cell_of_row w2 _ 1 _ _ _ hx2, cell_of_row w2 _ 2 _ _ _ hx2⟩
  have HB2 := Lib.hid hb2
  clear hb2 hx2 y0' y1' y2' y3'
  go_wp2_with fail
  refine HF2.out.mono ?_
  clear HF2
  rintro r w3 ⟨rfl, hb3⟩
  have hb03 : Below w.heap.size w w3 := HX.out.2.1.trans ((HB2.out.trans (hb3.mono HB2.out.size)).mono (by have := HX.out.2.2; omega))
  have hb13 : Below w1.heap.size w1 w3 := HB2.out.trans (hb3.mono HB2.out.size)
  have hx3 := (hb13.block w.heap.size (by have := HX.out.2.2; omega)).trans HX.out.1
  have hrow3 := (HX.out.2.2.2.below hb03 (Nat.le_refl _))
  have hs3 := hb03.size
  have hs3' : w.heap.size < w3.heap.size := (Array.getElem?_eq_some_iff.1 hx3).1
  -- the three orders: the row first; then the one between; or the other way round
  have m0 : RowE encN 4 w3.drew A l.length l := hrow3
  have mA := PutS.new (W := w3.drew) (sa := none) (ss := []) m0 HA.out (RowE.nil encN 4 _ _) (fun h => absurd rfl h) hx3 (Below.drew hb03)
  have mB := mA.lay
  have hxC := (Below.heap_alloc w3 (.cells #[.int .u16 (kVol e.1 : Int), .int .u32 (kBlk e.1 : Int), .int .u64 (kSeq e.1 : Int), .int .u32 (e.2 : Int)] 60) _ hs3').trans hx3
  have mC := PutS.new (W := (w3.alloc (.cells #[.int .u16 (kVol e.1 : Int), .int .u32 (kBlk e.1 : Int), .int .u64 (kSeq e.1 : Int), .int .u32 (e.2 : Int)] 60)).drew) (sa := some ⟨w3.heap.size, 0, none⟩) (ss := [e]) (hrow3.alloc _) HA.out (RowE.one w3 e) (fun _ => ⟨_, rfl, by show w3.heap.size < (w3.alloc _).heap.size; rw [World.alloc_size]; omega⟩) hxC (Below.drew (hb03.alloc hb03.size _))
  obtain ⟨q0, q1, q2, q3⟩ : w3.cell? ⟨w.heap.size, 0, none⟩ = some (.int .u16 (kVol e.1 : Int)) ∧ w3.cell? ⟨w.heap.size, 1, none⟩ = some (.int .u32 (kBlk e.1 : Int)) ∧ w3.cell? ⟨w.heap.size, 2, none⟩ = some (.int .u64 (kSeq e.1 : Int)) ∧ w3.cell? ⟨w.heap.size, 3, none⟩ = some (.int .u32 (e.2 : Int)) := ⟨cell_of_row w3 _ 0 _ _ _ hx3, cell_of_row w3 _ 1 _ _ _ hx3, cell_of_row w3 _ 2 _ _ _ hx3, cell_of_row w3 _ 3 _ _ _ hx3⟩
  have zA : (w3.alloc (.cells #[.int .u16 (kVol e.1 : Int), .int .u32 (kBlk e.1 : Int), .int .u64 (kSeq e.1 : Int), .int .u32 (e.2 : Int)] 60)).heap.size = w3.heap.size + 1 := World.alloc_size _ _
  have zB : (w3.alloc (.cells #[] 60)).heap.size = w3.heap.size + 1 := World.alloc_size _ _
  have mA' : PutS w.heap.size w A l.length l e (.slice (some ⟨w3.heap.size, 0, none⟩) 0 0) [] none [] (w3.alloc (.cells #[] 60)).drew := mA
  have mB' : PutS w.heap.size w A l.length l e (.slice (some ⟨w3.heap.size, 0, none⟩) 0 0) [] (some ⟨w3.heap.size + 1, 0, none⟩) [e] ((w3.alloc (.cells #[] 60)).alloc (.cells #[.int .u16 (kVol e.1 : Int), .int .u32 (kBlk e.1 : Int), .int .u64 (kSeq e.1 : Int), .int .u32 (e.2 : Int)] 60)).drew := by
    rw [← zB]; exact mB
  have mC' : PutS w.heap.size w A l.length l e (.slice (some ⟨w3.heap.size + 1, 0, none⟩) 0 0) [] (some ⟨w3.heap.size, 0, none⟩) [e] ((w3.alloc (.cells #[.int .u16 (kVol e.1 : Int), .int .u32 (kBlk e.1 : Int), .int .u64 (kSeq e.1 : Int), .int .u32 (e.2 : Int)] 60)).alloc (.cells #[] 60)).drew := by
    rw [← zA]; exact mC
  have MA := Lib.hid mA'
  have MB := Lib.hid mB'
  have MC := Lib.hid mC'
  have HSrc := Lib.hid (fun (W : World) (hW : RowE encN 4 W A l.length l) => RowE.take hW (findE l e.1) hle)
  have HLen : Hid ((l.take (findE l e.1)).length = findE l e.1) := Lib.hid (by rw [List.length_take]; omega)
  have hS : w3.drew.cell? ⟨w.heap.size, 0, none⟩ = some (.int .u16 (kVol e.1 : Int)) ∧ w3.drew.cell? ⟨w.heap.size, 1, none⟩ = some (.int .u32 (kBlk e.1 : Int)) ∧ w3.drew.cell? ⟨w.heap.size, 2, none⟩ = some (.int .u64 (kSeq e.1 : Int)) ∧ w3.drew.cell? ⟨w.heap.size, 3, none⟩ = some (.int .u32 (e.2 : Int)) := ⟨q0, q1, q2, q3⟩
  have HRES := Lib.hid HSET.out
  have hSE : (w3.alloc (.cells #[.int .u16 (kVol e.1 : Int), .int .u32 (kBlk e.1 : Int), .int .u64 (kSeq e.1 : Int), .int .u32 (e.2 : Int)] 60)).drew.cell? ⟨w.heap.size, 0, none⟩ = some (.int .u16 (kVol e.1 : Int)) ∧ (w3.alloc (.cells #[.int .u16 (kVol e.1 : Int), .int .u32 (kBlk e.1 : Int), .int .u64 (kSeq e.1 : Int), .int .u32 (e.2 : Int)] 60)).drew.cell? ⟨w.heap.size, 1, none⟩ = some (.int .u32 (kBlk e.1 : Int)) ∧ (w3.alloc (.cells #[.int .u16 (kVol e.1 : Int), .int .u32 (kBlk e.1 : Int), .int .u64 (kSeq e.1 : Int), .int .u32 (e.2 : Int)] 60)).drew.cell? ⟨w.heap.size, 2, none⟩ = some (.int .u64 (kSeq e.1 : Int)) ∧ (w3.alloc (.cells #[.int .u16 (kVol e.1 : Int), .int .u32 (kBlk e.1 : Int), .int .u64 (kSeq e.1 : Int), .int .u32 (e.2 : Int)] 60)).drew.cell? ⟨w.heap.size, 3, none⟩ = some (.int .u32 (e.2 : Int)) := ⟨cell_past q0 _, cell_past q1 _, cell_past q2 _, cell_past q3 _⟩
  have HIL := Lib.hid hle
  clear mA mB mC mA' mB' mC' zA zB m0 hxC hx3 hrow3 hb13 hb03 hb3 HFD z0 z1 z2 q0 q1 q2 q3 HSET hs3
  have gi0 : (0 : Int) ≤ ((findE l e.1 : Nat) : Int) := by omega
  have gic : ((findE l e.1 : Nat) : Int) ≤ (c : Int) := by omega
  have gil : findE l e.1 ≤ l.length := hle
  generalize hi : findE l e.1 = i at *
  have HI := Lib.hid hi
  clear hi hle
  rcases Option.eq_none_or_eq_some A with rfl | ⟨ad, rfl⟩
  · obtain ⟨rfl, rfl⟩ := HNone.out rfl
    obtain rfl : i = 0 := by simp at gil; exact gil
    go_wp2_with fail
    go_region_held_law (fun W => W.cell? ⟨w.heap.size, 0, none⟩ = some (.int .u16 (kVol e.1 : Int)) ∧ W.cell? ⟨w.heap.size, 1, none⟩ = some (.int .u32 (kBlk e.1 : Int)) ∧ W.cell? ⟨w.heap.size, 2, none⟩ = some (.int .u64 (kSeq e.1 : Int)) ∧ W.cell? ⟨w.heap.size, 3, none⟩ = some (.int .u32 (e.2 : Int)))
      (first | with_reducible exact hS | with_reducible exact hSE | with_reducible exact MA.out.cells | with_reducible exact MB.out.cells | with_reducible exact MC.out.cells | with_reducible exact m3.cells | with_reducible exact m2.cells | with_reducible exact m1.cells | with_reducible exact m1.lay.cells | go_keep)
      (first
        | (refine step_appP (v := .slice (some ⟨w3.heap.size, 0, none⟩) 0 0) (o := ⟨some 19, _, _, _, _, _⟩) (X := none) (k := 0) (c := 0) rfl _ _ rfl (by rfl) (by rfl) (by with_reducible exact MA.out) (HSrc.out _ MA.out.src) (fun h => absurd rfl h) (by simp) ?_; intro v1 W1 m1)
        | (refine step_appP (v := .slice (some ⟨w3.heap.size, 0, none⟩) 0 0) (o := ⟨some 19, _, _, _, _, _⟩) (X := none) (k := 0) (c := 0) rfl _ _ rfl (by rfl) (by rfl) (by with_reducible exact MB.out) (HSrc.out _ MB.out.src) (fun h => absurd rfl h) (by simp) ?_; intro v1 W1 m1)
        | (refine step_appP (v := .slice (some ⟨w3.heap.size + 1, 0, none⟩) 0 0) (o := ⟨some 19, _, _, _, _, _⟩) (X := none) (k := 0) (c := 0) rfl _ _ rfl (by rfl) (by rfl) (by with_reducible exact MC.out) (HSrc.out _ MC.out.src) (fun h => absurd rfl h) (by simp) ?_; intro v1 W1 m1)
        | (refine step_appP (v := v1) (o := ⟨some 22, _, _, _, _, _⟩) (X := some ⟨W1.heap.size, 0, none⟩) (k := 1) (c := 1) rfl _ _ rfl (by rfl) (by rfl) (by with_reducible exact m1.lay) (m1.lay).sec (fun _ => ⟨_, _, rfl⟩) (by simp) ?_; intro v2 W2 m2)
        | (refine step_appP (v := v1) (o := ⟨some 22, _, _, _, _, _⟩) (X := some ⟨w3.heap.size + 1, 0, none⟩) (k := 1) (c := 1) rfl _ _ rfl (by rfl) (by rfl) (by with_reducible exact m1) (m1).sec (fun _ => ⟨_, _, rfl⟩) (by simp) ?_; intro v2 W2 m2)
        | (refine step_appP (v := v1) (o := ⟨some 22, _, _, _, _, _⟩) (X := some ⟨w3.heap.size, 0, none⟩) (k := 1) (c := 1) rfl _ _ rfl (by rfl) (by rfl) (by with_reducible exact m1) (m1).sec (fun _ => ⟨_, _, rfl⟩) (by simp) ?_; intro v2 W2 m2)
        | (refine step_appP (v := v2) (o := ⟨some 26, _, _, _, _, _⟩) (X := none) (k := 0) (c := 0) rfl _ _ rfl (by rfl) (by rfl) (by with_reducible exact m2) (RowE.nil encN 4 _ _) (fun h => absurd rfl h) (by simp) ?_; intro v3 W3 m3))
    all_goals
      have HF := Lib.hid (And.intro m3.own m3.below)
      clear m3 m2 m1 hS hSE
      go_wp2_with fail
      go_ret
      refine ⟨v3, rfl, ?_, HF.out.2⟩
      rw [HRES.out]
      have := (HF.out.1).base (B' := w.heap.size) (by omega)
      simpa using this
  · obtain ⟨g, hg, hgl⟩ := HA.out (by simp)
    cases hg
    have hdrop : ∀ W, RowE encN 4 W (some ⟨g, 0, none⟩) l.length l → RowE encN 4 W (if c = i then some ⟨g, 0, none⟩ else some ⟨g, i * 4, none⟩) (l.length - i) (l.drop i) := fun W hW => by
      by_cases hci : c = i
      · have e1 : l.length - i = 0 := by omega
        have e2 : l.drop i = [] := List.drop_eq_nil_of_le (by omega)
        rw [if_pos hci, e1, e2]
        exact RowE.nil encN 4 _ _
      · rw [if_neg hci]
        have := RowE.drop hW i
        rwa [Nat.zero_add] at this
    have HDrop := Lib.hid hdrop
    clear hdrop
    go_wp2_with fail
    go_region_held_law (fun W => W.cell? ⟨w.heap.size, 0, none⟩ = some (.int .u16 (kVol e.1 : Int)) ∧ W.cell? ⟨w.heap.size, 1, none⟩ = some (.int .u32 (kBlk e.1 : Int)) ∧ W.cell? ⟨w.heap.size, 2, none⟩ = some (.int .u64 (kSeq e.1 : Int)) ∧ W.cell? ⟨w.heap.size, 3, none⟩ = some (.int .u32 (e.2 : Int)))
      (first | with_reducible exact hS | with_reducible exact hSE | with_reducible exact MA.out.cells | with_reducible exact MB.out.cells | with_reducible exact MC.out.cells | with_reducible exact m3.cells | with_reducible exact m2.cells | with_reducible exact m1.cells | with_reducible exact m1.lay.cells | go_keep)
      (first
        | (refine step_appP (v := .slice (some ⟨w3.heap.size, 0, none⟩) 0 0) (o := ⟨some 19, _, _, _, _, _⟩) (X := some ⟨g, 0, none⟩) (k := i) (c := c) rfl _ _ rfl rfl rfl (by with_reducible exact MA.out) (HSrc.out _ MA.out.src) (fun _ => ⟨g, 0, rfl⟩) (by simp; omega) ?_; intro v1 W1 m1)
        | (refine step_appP (v := .slice (some ⟨w3.heap.size, 0, none⟩) 0 0) (o := ⟨some 19, _, _, _, _, _⟩) (X := some ⟨g, 0, none⟩) (k := i) (c := c) rfl _ _ rfl rfl rfl (by with_reducible exact MB.out) (HSrc.out _ MB.out.src) (fun _ => ⟨g, 0, rfl⟩) (by simp; omega) ?_; intro v1 W1 m1)
        | (refine step_appP (v := .slice (some ⟨w3.heap.size + 1, 0, none⟩) 0 0) (o := ⟨some 19, _, _, _, _, _⟩) (X := some ⟨g, 0, none⟩) (k := i) (c := c) rfl _ _ rfl rfl rfl (by with_reducible exact MC.out) (HSrc.out _ MC.out.src) (fun _ => ⟨g, 0, rfl⟩) (by simp; omega) ?_; intro v1 W1 m1)
        | (refine step_appP (v := v1) (o := ⟨some 22, _, _, _, _, _⟩) (X := some ⟨W1.heap.size, 0, none⟩) (k := 1) (c := 1) rfl _ _ rfl rfl rfl (by with_reducible exact m1.lay) (m1.lay).sec (fun _ => ⟨_, _, rfl⟩) (by simp [HLen.out]; omega) ?_; intro v2 W2 m2)
        | (refine step_appP (v := v1) (o := ⟨some 22, _, _, _, _, _⟩) (X := some ⟨w3.heap.size + 1, 0, none⟩) (k := 1) (c := 1) rfl _ _ rfl rfl rfl (by with_reducible exact m1) (m1).sec (fun _ => ⟨_, _, rfl⟩) (by simp [HLen.out]; omega) ?_; intro v2 W2 m2)
        | (refine step_appP (v := v1) (o := ⟨some 22, _, _, _, _, _⟩) (X := some ⟨w3.heap.size, 0, none⟩) (k := 1) (c := 1) rfl _ _ rfl rfl rfl (by with_reducible exact m1) (m1).sec (fun _ => ⟨_, _, rfl⟩) (by simp [HLen.out]; omega) ?_; intro v2 W2 m2)
        | (refine step_appP (v := v2) (o := ⟨some 26, _, _, _, _, _⟩) (X := if c = i then some ⟨g, 0, none⟩ else some ⟨g, i * 4, none⟩) (k := l.length - i) (c := c - i) rfl _ _ rfl rfl rfl (by with_reducible exact m2) (HDrop.out _ m2.src) (by intro _; by_cases hci : c = i; exact ⟨g, 0, if_pos hci⟩; exact ⟨g, i * 4, if_neg hci⟩) (by simp [HLen.out]; omega) ?_; intro v3 W3 m3))
    all_goals
      have HF := Lib.hid (And.intro m3.own m3.below)
      clear m3 m2 m1 hS hSE
      go_wp2_with fail
      all_goals
        go_ret
        refine ⟨v3, rfl, ?_, HF.out.2⟩
        rw [HRES.out]
        have := (HF.out.1).base (B' := w.heap.size) (by omega)
        simpa using this

set_option maxRecDepth 100000 in
set_option maxHeartbeats 4000000 in
theorem put_ref {w : World} {B0 : Nat} {v : Value} {l : List En} (h : OwnE encN 4 60 w B0 v l) (hl : l.length ≤ 100000) (hr : Rise l) (e : En) (hk : e.1 ∉ l.map (·.1)) :
    Calls Tryz.prog 30 #[v, entV e] w fun r w' => ∃ v', r = .returned v' ∧ OwnE encN 4 60 w' w.heap.size v' (setE l e) ∧ Below w.heap.size w w' := by
  have hb1 : Below w.heap.size w (w.alloc (.cells #[.int .u16 (kVol e.1 : Int), .int .u32 (kBlk e.1 : Int), .int .u64 (kSeq e.1 : Int), .int .u32 (e.2 : Int)] 60)) := (Below.refl _ _).alloc (Nat.le_refl _) _
  have HS := Lib.hid (set_ref (h.below hb1 (Nat.le_refl _)) hl hr e hk)
  have HB := Lib.hid hb1
  unfold entV at HS ⊢
  clear h hb1 hr hk
  go_enter Tryz.func30, Tryz.ntmps30
  go_wp2_with fail
  refine HS.out.mono ?_
  rintro r w2 ⟨v', rfl, ho, hb⟩
  have HF := Lib.hid (And.intro (ho.base HB.out.size) (HB.out.trans (hb.mono HB.out.size)))
  clear ho hb
  go_wp2_with fail
  go_ret
  exact ⟨v', rfl, HF.out.1, HF.out.2⟩
end Go.Proofs.YtejhbaeeaejcaaaGreat
/- The walks of the law's New, alive, Few. Conditions: those of each theorem. -/
namespace Go.Proofs.YtejhbaeeaejcaaaGreat
open Go.RowKit

theorem upto_nodup : ∀ n, (upto n).Nodup
  | 0 => List.nodup_nil
  | n + 1 => List.nodup_cons.2 ⟨fun h => by have := (mem_upto.1 h).2; omega, upto_nodup n⟩

set_option maxRecDepth 100000 in
set_option maxHeartbeats 4000000 in
theorem new38_any (w : World) :
    Calls Tryz.prog 7 #[] w fun e w' => ∃ ph pt pa E, e = .returned (.tuple #[ptrV ph, .bool true]) ∧ HistW w' ph pt pa [] (upto 60) [] 60 E ∧ (∀ j, E j → w.heap.size ≤ j) ∧ Below w.heap.size w w' := by
  have HN := Lib.hid (allocNew_any 60 w (by omega))
  unfold ptrV at HN ⊢
  go_enter Tryz.func7, Tryz.ntmps7
  go_wp2_with fail
  refine HN.out.mono ?_
  rintro e w1 ⟨pa, D, rfl, hA, hD, hb1⟩
  have HH := Lib.hid (historyNew_any hA)
  have HK := Lib.hid (And.intro hD hb1)
  unfold ptrV at HH
  clear hA hD hb1
  go_wp2_with fail
  refine HH.out.mono ?_
  rintro e w2 ⟨ph, pt, E, rfl, hW, hE, hb2⟩
  obtain ⟨c0, c1⟩ := hW.reads
  have HW := Lib.hid (And.intro hW (And.intro (show ∀ j, E j → w.heap.size ≤ j from fun j hj => by
    rcases hE j hj with h | h
    · exact HK.out.1 j h
    · have := HK.out.2.size; omega) (HK.out.2.trans (hb2.mono HK.out.2.size))))
  unfold ptrV at c0 c1
  clear hW hE hb2
  go_wp2_with fail
  go_quiet (fail)
  go_wp2_with fail
  go_ret2
  exact ⟨ph, pt, pa, E, rfl, HW.out.1.below ⟨rfl, rfl, rfl, Nat.le_refl _, fun _ _ => rfl⟩, HW.out.2.1, ⟨HW.out.2.2.os, HW.out.2.2.tape, HW.out.2.2.output, HW.out.2.2.size, HW.out.2.2.block⟩⟩

theorem alive_at4 : atL (setE [] (keyN 1 0 5, 7)) 1 0 4 = 0 := by decide +kernel
theorem alive_at6 : atL (setE [] (keyN 1 0 5, 7)) 1 0 6 = 7 := by decide +kernel
set_option maxRecDepth 100000 in
set_option maxHeartbeats 4000000 in
theorem alive38_any (w : World) :
    Calls Tryz.prog 13 #[] w fun e w' => e = .returned (.bool true) ∧ Below w.heap.size w w' := by
  have HN := Lib.hid (new38_any w)
  unfold ptrV at HN
  go_enter Tryz.func13, Tryz.ntmps13
  go_wp2_with fail
  refine HN.out.mono ?_
  rintro e w1 ⟨ph, pt, pa, E, rfl, hW, hE, hb1⟩
  have hput := put_any hW (by simp) (keyN 1 0 5) 7
  rw [keyN_v (by decide) (by decide)] at hput
  have HP := Lib.hid hput
  have HK := Lib.hid (And.intro hE hb1)
  unfold ptrV at HP
  clear hW hE hb1 hput
  go_wp2_with fail
  refine HP.out.mono ?_
  rintro e w2 ⟨rfl, E2, hW2, hg2, ho2⟩
  have HA := Lib.hid (at_any hW2 (by decide) 1 0 4 (by decide) (by decide) (by decide))
  rw [alive_at4] at HA
  have HK2 := Lib.hid (show Below w.heap.size w w2 from HK.out.2.trans ⟨ho2.os, ho2.tape, ho2.output, ho2.size, fun j hj => ho2.block j (by have := HK.out.2.size; omega) (fun e => by have := HK.out.1 j e; omega)⟩)
  have HW2 := Lib.hid hW2
  unfold ptrV at HA
  clear hW2 hg2 ho2
  go_wp2_with fail
  refine HA.out.mono ?_
  rintro e w3 ⟨rfl, hb3⟩
  have HA6 := Lib.hid (at_any (HW2.out.below hb3) (by decide) 1 0 6 (by decide) (by decide) (by decide))
  rw [alive_at6] at HA6
  have HK3 := Lib.hid (HK2.out.trans (hb3.mono HK2.out.size))
  unfold ptrV at HA6
  clear hb3
  go_wp2_with fail
  refine HA6.out.mono ?_
  rintro e w4 ⟨rfl, hb4⟩
  have HK4 := Lib.hid (HK3.out.trans (hb4.mono HK3.out.size))
  clear hb4
  go_wp2_with fail
  go_ret
  exact ⟨rfl, HK4.out⟩

/-- A call of the law: its kind and number, its key, its points, its floor. -/
structure Oh where
  kd : Int
  nm : Int
  key : Nat
  pa : Option Addr
  pm : Nat
  pc : Nat
  ps : List Nat
  fl : Nat
def encO (o : Oh) : List Value := [.int .i64 o.kd, .int .i64 o.nm, .int .u16 (kVol o.key : Int), .int .u32 (kBlk o.key : Int), .int .u64 (kSeq o.key : Int), .slice o.pa o.pm o.pc, .int .u64 (o.fl : Int)]
def opV (o : Oh) : Value := .agg #[.int .i64 o.kd, .int .i64 o.nm, .int .u16 (kVol o.key : Int), .int .u32 (kBlk o.key : Int), .int .u64 (kSeq o.key : Int), .slice o.pa o.pm o.pc, .int .u64 (o.fl : Int)]
def goodO (o : Oh) : Bool := decide (o.pm ≤ 30) && (decide (0 ≤ o.kd) && (decide (0 ≤ o.nm) && decide (kBlk o.key ≤ 1073741824)))
def fewB (l : List Oh) : Bool := decide (l.length ≤ 60) && l.all goodO
theorem all_take {α : Type} (p : α → Bool) (l : List α) {i : Nat} {x : α} (hx : l[i]? = some x) : (l.take (i + 1)).all p = ((l.take i).all p && p x) := by
  rw [List.take_add_one, hx, List.all_append]; simp
set_option maxRecDepth 100000 in
set_option maxHeartbeats 4000000 in
theorem few38_any {w : World} {a : Option Addr} {n c : Nat} {l : List Oh} (h : RowE encO 7 w a n l) (hpm : ∀ o ∈ l, o.pm ≤ 9223372036854775807) :
    Calls Tryz.prog 5 #[.slice a n c] w fun e w' => e = .returned (.bool (fewB l)) ∧ w' = w := by
  have hl := h.1
  by_cases h60 : n ≤ 60
  · have z0 : ¬ ((60 : Int) < (n : Int)) := by omega
    have H := Lib.hid h
    have HL := Lib.hid hl
    have HPM := Lib.hid hpm
    clear h hl hpm
    go_enter Tryz.func5, Tryz.ntmps5
    go_wp2_with fail
    go_loop [3] (fun u => ∃ i : Nat, i ≤ n ∧ u = .int .i64 i ∧ (l.take i).all goodO = true) (fun u => n - (intOf u).toNat)
    case atStart => exact ⟨0, by omega, rfl, rfl⟩
    case round =>
      obtain ⟨i, hi, rfl, hR⟩ := hrel
      have HR := Lib.hid hR
      clear hR
      by_cases hlt : i < n
      · have hi1 : (i : Int) < (n : Int) := by omega
        have hi0 : (0 : Int) ≤ (i : Int) := by omega
        obtain ⟨x, hx⟩ : ∃ x, l[i]? = some x := ⟨_, List.getElem?_eq_getElem (by have := HL.out; omega)⟩
        obtain ⟨g, o, rfl, hc⟩ := H.out.2 i x hx
        have c0 := hc 0 _ rfl
        have c1 := hc 1 _ rfl
        have c3 := hc 3 _ rfl
        have c5 := hc 5 _ rfl
        simp only [Nat.add_zero] at c0
        have hbad : goodO x = false → fewB l = false := fun hf => by
          unfold fewB
          rw [Bool.and_eq_false_iff]
          right
          cases hall : l.all goodO with
          | false => rfl
          | true =>
            have := List.all_eq_true.1 hall x (List.mem_of_getElem? hx)
            rw [hf] at this
            cases this
        have HBAD := Lib.hid hbad
        have HA := Lib.hid (all_take goodO l hx)
        have hm := HPM.out x (List.mem_of_getElem? hx)
        clear hx hc hbad
        by_cases g1 : x.pm ≤ 30
        · have z1 : ¬ ((30 : Int) < (x.pm : Int)) := by omega
          by_cases g2 : 0 ≤ x.kd
          · have z2 : ¬ (x.kd < 0) := by omega
            by_cases g3 : 0 ≤ x.nm
            · have z3 : ¬ (x.nm < 0) := by omega
              by_cases g4 : kBlk x.key ≤ 1073741824
              · have z4 : ¬ ((1073741824 : Int) < (kBlk x.key : Int)) := by omega
                have HG := Lib.hid (show goodO x = true by unfold goodO; simp [g1, g2, g3, g4])
                clear g1 g2 g3 g4
                go_wp2_with fail
                go_round
                case rel => exact ⟨i + 1, by omega, by go_num, by rw [HA.out, HR.out, HG.out]; rfl⟩
                case measure => simp [intOf]; omega
              · have z4 : ((1073741824 : Int) < (kBlk x.key : Int)) := by omega
                have HG := Lib.hid (HBAD.out (by unfold goodO; simp [g4]))
                clear g1 g2 g3 g4
                go_wp2_with fail
                go_ret
                exact ⟨by rw [HG.out]; rfl, rfl⟩
            · have z3 : x.nm < 0 := by omega
              have HG := Lib.hid (HBAD.out (by unfold goodO; simp [g3]))
              clear g1 g2 g3
              go_wp2_with fail
              go_ret
              exact ⟨by rw [HG.out]; rfl, rfl⟩
          · have z2 : x.kd < 0 := by omega
            have HG := Lib.hid (HBAD.out (by unfold goodO; simp [g2]))
            clear g1 g2
            go_wp2_with fail
            go_ret
            exact ⟨by rw [HG.out]; rfl, rfl⟩
        · have z1 : ((30 : Int) < (x.pm : Int)) := by omega
          have HG := Lib.hid (HBAD.out (by unfold goodO; simp [g1]))
          clear g1
          go_wp2_with fail
          go_ret
          exact ⟨by rw [HG.out]; rfl, rfl⟩
      · obtain rfl : n = i := by omega
        have HF := Lib.hid (show fewB l = true by
          have h1 := HR.out
          rw [List.take_of_length_le (by have := HL.out; omega)] at h1
          have h2 := HL.out
          unfold fewB
          rw [h1, h2]
          simp [h60])
        go_wp2_with fail
        go_ret
        exact ⟨by rw [HF.out]; rfl, rfl⟩
  · have z0 : ((60 : Int) < (n : Int)) := by omega
    have HF := Lib.hid (show fewB l = false by unfold fewB; rw [hl]; simp [h60])
    clear h hl h60 hpm
    go_enter Tryz.func5, Tryz.ntmps5
    go_wp2_with fail
    go_ret
    exact ⟨by rw [HF.out]; rfl, rfl⟩
end Go.Proofs.YtejhbaeeaejcaaaGreat
/- The walk of the law's Step at a history and a row that have the same versions. Conditions: those of each theorem. -/
namespace Go.Proofs.YtejhbaeeaejcaaaGreat
open Go.RowKit

/-- A history and a row of the law's own with the same versions, all of it made since base. -/
structure LawS (base : Nat) (w0 : World) (ph pt pa n : Nat) (v : Value) (l : List En) (W : World) : Prop where
  his : ∃ E F L, HistW W ph pt pa l F L n E ∧ HInv n l F L ∧ (∀ j, E j → base ≤ j) ∧ ∀ g, v.ownBlock = some g → ¬ E g
  fit : Fit l
  row : OwnE encN 4 60 W base v l
  below : Below base w0 W
  le : base ≤ W.heap.size
theorem LawS.ro {base : Nat} {w0 : World} {ph pt pa n : Nat} {v : Value} {l : List En} {W W' : World} (h : LawS base w0 ph pt pa n v l W) (hb : Below W.heap.size W W') : LawS base w0 ph pt pa n v l W' := by
  obtain ⟨E, F, L, h1, h2, h3, h4⟩ := h.his
  exact ⟨⟨E, F, L, h1.below hb, h2, h3, h4⟩, h.fit, h.row.below hb (Nat.le_refl _), h.below.trans (hb.mono h.le), Nat.le_trans h.le hb.size⟩
theorem below_of_outs {base : Nat} {E : Nat → Prop} {W W' : World} (ho : Outs E W W') (hE : ∀ j, E j → base ≤ j) (hB : base ≤ W.heap.size) : Below base W W' := ⟨ho.os, ho.tape, ho.output, ho.size, fun j hj => ho.block j (by omega) fun e => by have := hE j e; omega⟩
/-- A row that was made ahead of the history's turn. -/
theorem LawS.mk1 {base : Nat} {w0 : World} {ph pt pa n : Nat} {E : Nat → Prop} {v2 : Value} {l2 : List En} {W W1 W2 : World} (hb0 : Below base w0 W) (hB : base ≤ W.heap.size) (hE : ∀ j, E j → base ≤ j ∧ j < W.heap.size) (hb1 : Below W.heap.size W W1) (hr : OwnE encN 4 60 W1 W.heap.size v2 l2) (hO : HO ph pt pa n E W1 l2 W2) (hf : Fit l2) : LawS base w0 ph pt pa n v2 l2 W2 := by
  obtain ⟨F, L, ⟨E', h1, h2, h3⟩, h4⟩ := hO
  have hs := hb1.size
  refine ⟨⟨E', F, L, h1, h4, fun j hj => ?_, fun g hg e => ?_⟩, hf, (hr.far h3 fun j hj => (hE j hj).2).base hB, (hb0.trans (hb1.mono hB)).trans (below_of_outs h3 (fun j hj => (hE j hj).1) (by omega)), by have := h3.size; omega⟩
  · rcases h2.new j hj with h | h
    · exact (hE j h).1
    · omega
  · have hgl := hr.lt g hg
    rcases h2.new g e with h | h
    · have := (hE g h).2; omega
    · omega
/-- A row that was made behind it. -/
theorem LawS.mk2 {base : Nat} {w0 : World} {ph pt pa n : Nat} {E : Nat → Prop} {v2 : Value} {l2 : List En} {W W1 W2 : World} (hb0 : Below base w0 W) (hB : base ≤ W.heap.size) (hE : ∀ j, E j → base ≤ j ∧ j < W.heap.size) (hO : HO ph pt pa n E W l2 W1) (hb1 : Below W1.heap.size W1 W2) (hr : OwnE encN 4 60 W2 W1.heap.size v2 l2) (hf : Fit l2) : LawS base w0 ph pt pa n v2 l2 W2 := by
  obtain ⟨F, L, ⟨E', h1, h2, h3⟩, h4⟩ := hO
  have hs := h3.size
  refine ⟨⟨E', F, L, h1.below hb1, h4, fun j hj => ?_, fun g hg e => ?_⟩, hf, hr.base (by omega), (hb0.trans (below_of_outs h3 (fun j hj => (hE j hj).1) hB)).trans (hb1.mono (by omega)), by have := hb1.size; omega⟩
  · rcases h2.new j hj with h | h
    · exact (hE j h).1
    · omega
  · have hgl := hr.lt g hg
    have := h1.lt g e
    omega
theorem LawS.E {base : Nat} {w0 : World} {ph pt pa n : Nat} {v : Value} {l : List En} {W : World} (h : LawS base w0 ph pt pa n v l W) : ∃ E F L, HistW W ph pt pa l F L n E ∧ HInv n l F L ∧ ∀ j, E j → base ≤ j ∧ j < W.heap.size := by
  obtain ⟨E, F, L, h1, h2, h3, h4⟩ := h.his
  exact ⟨E, F, L, h1, h2, fun j hj => ⟨h3 j hj, h1.lt j hj⟩⟩
theorem setL_new {l : List En} {k a : Nat} (hf : Fit l) (hk : k ≤ 5192296858534827628530496329220095) (ha : a < 4294967296) : Fit (setE l (k, a)) := hf.set ⟨hk, ha⟩
theorem Fit.filter {l : List En} (h : Fit l) (f : En → Bool) : Fit (l.filter f) := fun x hx => h x (List.mem_filter.1 hx).1

set_option maxRecDepth 100000 in
set_option maxHeartbeats 16000000 in
theorem step38_any {base : Nat} {w0 : World} {ph pt pa n : Nat} {v : Value} {l : List En} {w : World} (h : LawS base w0 ph pt pa n v l w) (hl : l.length ≤ 1000) (hn : n ≤ 4096) (o : Oh) (hg : goodO o = true) (hkm : o.kd ≤ 9223372036854775807) (hnm : o.nm ≤ 9223372036854775807) (hk : o.key ≤ 5192296858534827628530496329220095) (hps : RowE encS 1 w o.pa o.pm o.ps) :
    Calls Tryz.prog 8 #[ptrV ph, v, opV o] w fun e w' => ∃ v' l', e = .returned (.tuple #[v', .bool true]) ∧ LawS base w0 ph pt pa n v' l' w' ∧ l'.length ≤ l.length + 1 := by
  unfold goodO at hg
  simp only [Bool.and_eq_true, decide_eq_true_eq] at hg
  obtain ⟨gm, gk, gn, gb⟩ := hg
  obtain ⟨kd, nm, key, pA, pm, pc, ps, fl⟩ := o
  simp only at gm gk gn gb hkm hnm hk hps
  obtain ⟨kd, rfl⟩ := Int.eq_ofNat_of_zero_le gk
  obtain ⟨nm, rfl⟩ := Int.eq_ofNat_of_zero_le gn
  obtain ⟨w1, hw1⟩ : ∃ w1, w1 = w.alloc (.cells #[.int .i64 (kd : Int), .int .i64 (nm : Int), .int .u16 (kVol key : Int), .int .u32 (kBlk key : Int), .int .u64 (kSeq key : Int), .slice pA pm pc, .int .u64 (fl : Int)] 30) := ⟨_, rfl⟩
  have hX : w1.heap[w.heap.size]? = some (.cells #[.int .i64 (kd : Int), .int .i64 (nm : Int), .int .u16 (kVol key : Int), .int .u32 (kBlk key : Int), .int .u64 (kSeq key : Int), .slice pA pm pc, .int .u64 (fl : Int)] 30 (0, 0)) := by rw [hw1]; exact heap_alloc_new w _
  have hb1 : Below w.heap.size w w1 := by rw [hw1]; exact (Below.refl _ _).alloc (Nat.le_refl _) _
  have hz1 : w1.heap.size = w.heap.size + 1 := by rw [hw1, World.alloc_size]
  have hB := h.le
  have hL1 := h.ro hb1
  obtain ⟨E, F, L, hH, hI, hEb, hvE⟩ := h.his
  have hE : ∀ j, E j → base ≤ j ∧ j < w.heap.size := fun j hj => ⟨hEb j hj, hH.lt j hj⟩
  have hrow0 := h.row
  have HH := Lib.hid (And.intro hH (And.intro hI (And.intro hE (And.intro hvE (And.intro hrow0 (And.intro h.below hB))))))
  have hrise : Rise l := hH.rise
  have hfit := h.fit
  obtain ⟨A, c, hv, hrow, hcap, -⟩ := hL1.row.row encN_len
  have hvol : kVol key < 65536 := by unfold kVol; omega
  have HG := Lib.hid (get_ref (c := c) hrow (by omega) hrise key)
  have s1 : IntKind.i64.wrap (kVol key : Int) = (kVol key : Int) := IntWalk.i64_in _ (by omega)
  -- the box in a later world
  have hbox : ∀ W, Below w1.heap.size w1 W → W.heap[w.heap.size]? = some (.cells #[.int .i64 (kd : Int), .int .i64 (nm : Int), .int .u16 (kVol key : Int), .int .u32 (kBlk key : Int), .int .u64 (kSeq key : Int), .slice pA pm pc, .int .u64 (fl : Int)] 30 (0, 0)) := fun W hW => (hW.block _ (by omega)).trans hX
  have HBox := Lib.hid hbox
  have HPS := Lib.hid (And.intro hps trivial)
  have HL1 := Lib.hid hL1
  have HLAW := Lib.hid h
  have HB1 := Lib.hid (And.intro hb1 hz1)
  have hrow00 := hrow0
  rw [hv] at hrow00
  have HROW := Lib.hid (show RowE encN 4 w A l.length l by
    obtain ⟨A', c', hv', hr', -, -⟩ := hrow0.row encN_len
    have := hv.symm.trans hv'
    simp only [Value.slice.injEq, true_and] at this
    rw [this.1]; exact hr')
  clear hrow00
  have HV := Lib.hid hv
  have HRise := Lib.hid (And.intro hrise hfit)
  have y0 : w1.cell? ⟨w.heap.size, 0, none⟩ = some (.int .i64 (kd : Int)) := cell_of_row w1 _ 0 _ _ _ hX
  have y2 : w1.cell? ⟨w.heap.size, 2, none⟩ = some (.int .u16 (kVol key : Int)) := cell_of_row w1 _ 2 _ _ _ hX
  have y3 : w1.cell? ⟨w.heap.size, 3, none⟩ = some (.int .u32 (kBlk key : Int)) := cell_of_row w1 _ 3 _ _ _ hX
  have y4 : w1.cell? ⟨w.heap.size, 4, none⟩ = some (.int .u64 (kSeq key : Int)) := cell_of_row w1 _ 4 _ _ _ hX
  unfold opV
  unfold keyV at HG
  subst hv
  unfold ptrV
  clear h hX hb1 hL1 hrise hfit hrow hbox hps hH hI hEb hE hvE hrow0 hB
  go_enter Tryz.func8, Tryz.ntmps8
  go_wp2_with fail
  rw [← hw1]
  have HW1 := Lib.hid hw1
  clear hw1
  refine HG.out.mono ?_
  clear HG
  rintro e w2 ⟨⟨v0, v1, v2, v3, rfl⟩, hb2⟩
  obtain ⟨had, hhad⟩ : ∃ had, had = decide (key ∈ l.map (·.1)) := ⟨_, rfl⟩
  rw [← hhad]
  -- behind the box of what was got
  obtain ⟨w3, hw3⟩ : ∃ w3, w3 = w2.alloc (.cells #[.int .u16 v0, .int .u32 v1, .int .u64 v2, .int .u32 v3] 60) := ⟨_, rfl⟩
  have hb13 : Below w1.heap.size w1 w3 := by rw [hw3]; exact hb2.alloc hb2.size _
  have hb03 : Below w.heap.size w w3 := HB1.out.1.trans (hb13.mono (by have := HB1.out.2; omega))
  have hX3 := HBox.out w3 hb13
  have hz3 : w.heap.size + 1 < w3.heap.size := by
    have := hb2.size
    rw [hw3, World.alloc_size]; omega
  have HB13 := Lib.hid (And.intro hb13 hb03)
  have HZ3 := Lib.hid hz3
  have HHad := Lib.hid hhad
  -- the box's cells in a world in which it stays
  have hcs : ∀ W : World, W.heap[w.heap.size]? = some (.cells #[.int .i64 (kd : Int), .int .i64 (nm : Int), .int .u16 (kVol key : Int), .int .u32 (kBlk key : Int), .int .u64 (kSeq key : Int), .slice pA pm pc, .int .u64 (fl : Int)] 30 (0, 0)) →
      W.cell? ⟨w.heap.size, 0, none⟩ = some (.int .i64 (kd : Int)) ∧ W.cell? ⟨w.heap.size, 1, none⟩ = some (.int .i64 (nm : Int)) ∧ W.cell? ⟨w.heap.size, 2, none⟩ = some (.int .u16 (kVol key : Int)) ∧ W.cell? ⟨w.heap.size, 3, none⟩ = some (.int .u32 (kBlk key : Int)) ∧ W.cell? ⟨w.heap.size, 4, none⟩ = some (.int .u64 (kSeq key : Int)) ∧ W.cell? ⟨w.heap.size, 5, none⟩ = some (.slice pA pm pc) ∧ W.cell? ⟨w.heap.size, 6, none⟩ = some (.int .u64 (fl : Int)) :=
    fun W hW => ⟨cell_of_row W _ 0 _ _ _ hW, cell_of_row W _ 1 _ _ _ hW, cell_of_row W _ 2 _ _ _ hW, cell_of_row W _ 3 _ _ _ hW, cell_of_row W _ 4 _ _ _ hW, cell_of_row W _ 5 _ _ _ hW, cell_of_row W _ 6 _ _ _ hW⟩
  have HCS := Lib.hid hcs
  obtain ⟨x0, x1, x2, x3, x4, x5, x6⟩ := hcs w3 hX3
  have HX3 := Lib.hid hX3
  clear hb2 hb13 hb03 hX3 hz3 y0 y2 y3 y4 hhad hcs
  have z0 : (0 : Int) ≤ (kd : Int) := by omega
  have z1 : (kd : Int) ≤ 9223372036854775807 := hkm
  have z2 : (0 : Int) ≤ (nm : Int) := by omega
  have z3 : (nm : Int) ≤ 9223372036854775807 := hnm
  go_upto_region 3 with fail
  rw [← hw3]
  have HW3 := Lib.hid hw3
  clear hw3
  by_cases k5 : kd % 7 = 5
  · have e5 : (((kd : Int) % 7) == 5) = true := by rw [beq_iff_eq]; omega
    have HOF := Lib.hid (of_ref (c := c) (HROW.out.below HB13.out.2 (Nat.le_refl _)) (by omega) HRise.out.2 (kVol key))
    clear k5
    go_wp2_with fail
    refine HOF.out.mono ?_
    clear HOF x0 x1 x2 x3 x4 x5 x6
    rintro e w4 ⟨r1, r2, rfl, hm⟩
    obtain ⟨a1, c1, hr1, -, -, -⟩ := hm.a.row encN_len
    have hb04 : Below w.heap.size w w4 := HB13.out.2.trans (hm.below.mono HB13.out.2.size)
    have HD := Lib.hid (drop_any (HH.out.1.below hb04) HH.out.2.1 HRise.out.2 (by omega) hn (kVol key) hvol)
    have HM := Lib.hid (And.intro hm hb04)
    unfold ptrV at HD
    clear hm hb04
    subst hr1
    go_wp2_with fail
    refine HD.out.mono ?_
    clear HD
    rintro e w5 ⟨rfl, hO⟩
    have HO5 := Lib.hid hO
    clear hO
    go_wp2_with fail
    go_ret2
    obtain ⟨hH, hI, hE, hvE, hrow0, hbel, hB⟩ := HH.out
    have hd : delAll l (volL l (kVol key)) = l.filter fun x => !decide (kVol x.1 = kVol key) := delAll_rest HRise.out.1 _
    rw [hd] at HO5
    refine ⟨_, _, rfl, LawS.mk1 hbel hB hE HM.out.2 (HM.out.1.b.base HB13.out.2.size) HO5.out (HRise.out.2.filter _), ?_⟩
    have := List.length_filter_le (fun x : En => !decide (kVol x.1 = kVol key)) l
    omega
  · have e5 : (((kd : Int) % 7) == 5) = false := by rw [beq_eq_false_iff_ne]; omega
    by_cases k6 : kd % 7 = 6
    · have e6 : (((kd : Int) % 7) == 6) = true := by rw [beq_iff_eq]; omega
      have HSP := Lib.hid (split_ref (c := c) (c' := pc) (HROW.out.below HB13.out.2 (Nat.le_refl _)) (by omega) HRise.out.2 (kVol key) (HPS.out.1.below HB13.out.2 (Nat.le_refl _)) (by omega) fl)
      clear k5 k6
      go_wp2_with fail
      refine HSP.out.mono ?_
      clear HSP x0 x1 x2 x3 x4 x5 x6
      rintro e w4 ⟨r1, r2, rfl, hm⟩
      obtain ⟨a1, c1, hr1, hrow1, -, -⟩ := hm.a.row encN_len
      have hb04 : Below w.heap.size w w4 := HB13.out.2.trans (hm.below.mono HB13.out.2.size)
      have hX4 := (hm.below.block _ (by have := HZ3.out; omega)).trans HX3.out
      obtain ⟨x0, x1, x2, x3, x4, x5, x6⟩ := HCS.out w4 hX4
      have HID := Lib.hid (idle_any (HH.out.1.below hb04) (by omega) (kVol key) hvol (c := pc) (HPS.out.1.below hb04 (Nat.le_refl _)) (by omega) fl)
      have HM := Lib.hid (And.intro hm (And.intro hb04 (And.intro hrow1 hX4)))
      unfold ptrV at HID
      clear hm hb04 hrow1 hX4
      subst hr1
      go_wp2_with fail
      refine HID.out.mono ?_
      clear HID x0 x1 x2 x3 x4 x5 x6
      rintro e w5 ⟨r3, rfl, hr3, hb5⟩
      obtain ⟨a3, c3, hr3e, hrow3, -, -⟩ := hr3.row encN_len
      have hle : (idleL l (kVol key) ps fl).length ≤ 1000 := Nat.le_trans (idleL_sub l (kVol key) ps fl).length_le hl
      have heq := equalE_any (c := c3) (c' := c1) hrow3 (HM.out.2.2.1.below hb5 (Nat.le_refl _)) (by omega)
      rw [decide_eq_true (idle_eq HRise.out.1 (kVol key) ps fl)] at heq
      have HEQ := Lib.hid heq
      have hb05 := HM.out.2.1.trans (hb5.mono HM.out.2.1.size)
      have hX5 := (hb5.block _ (by have := (Array.getElem?_eq_some_iff.1 HM.out.2.2.2).1; omega)).trans HM.out.2.2.2
      have HB5 := Lib.hid (And.intro hb5 (And.intro hb05 hX5))
      subst hr3e
      clear hr3 hrow3 hle heq hb5 hb05 hX5
      go_wp2_with fail
      refine HEQ.out.mono ?_
      clear HEQ
      rintro e w6 ⟨rfl, q, rfl⟩
      obtain ⟨x0, x1, x2, x3, x4, x5, x6⟩ := HCS.out (w5.drewN q) HB5.out.2.2
      have hb06 : Below w.heap.size w (w5.drewN q) := ⟨HB5.out.2.1.os, HB5.out.2.1.tape, HB5.out.2.1.output, HB5.out.2.1.size, HB5.out.2.1.block⟩
      have HPR := Lib.hid (prune_any (HH.out.1.below hb06) HH.out.2.1 HRise.out.2 (by omega) hn (kVol key) hvol (c := pc) (HPS.out.1.below hb06 (Nat.le_refl _)) (by omega) fl)
      have HB6 := Lib.hid hb06
      have hile : (idleL l (kVol key) ps fl).length = (l.filter (goneB l (kVol key) ps fl)).length := by rw [idle_eq HRise.out.1]
      rw [hile] at HPR
      have HILE := Lib.hid hile
      unfold ptrV at HPR
      clear hb06 hile
      go_wp2_with fail
      refine HPR.out.mono ?_
      clear HPR x0 x1 x2 x3 x4 x5 x6
      rintro e w7 ⟨rfl, hO⟩
      have HO7 := Lib.hid hO
      clear hO
      go_wp2_with fail
      go_ret2
      obtain ⟨hH, hI, hE, hvE, hrow0, hbel, hB⟩ := HH.out
      have hd : delAll l (idleL l (kVol key) ps fl) = l.filter fun x => !goneB l (kVol key) ps fl x := by
        rw [idle_eq HRise.out.1]
        exact delAll_rest HRise.out.1 _
      rw [hd] at HO7
      have hb46 : Below w4.heap.size w4 (w5.drewN q) := ⟨HB5.out.1.os, HB5.out.1.tape, HB5.out.1.output, HB5.out.1.size, HB5.out.1.block⟩
      refine ⟨_, _, rfl, LawS.mk1 hbel hB hE HB6.out ((HM.out.1.b.below hb46 (Nat.le_refl _)).base HB13.out.2.size) HO7.out (HRise.out.2.filter _), ?_⟩
      have := List.length_filter_le (fun x : En => !goneB l (kVol key) ps fl x) l
      omega
    · have e6 : (((kd : Int) % 7) == 6) = false := by rw [beq_eq_false_iff_ne]; omega
      cases had with
      | true =>
        clear k5 k6
        go_wp2_with fail
        go_ret2
        exact ⟨_, _, rfl, HLAW.out.ro HB13.out.2, by omega⟩
      | false =>
        have hnk : key ∉ l.map (·.1) := of_decide_eq_false HHad.out.symm
        have HNK := Lib.hid hnk
        have HLEN := Lib.hid (fun a => setE_len_new (e := (key, a)) HRise.out.1 hnk)
        clear hnk
        -- what follows the history's turn: the row's
        have HPUT := Lib.hid (fun (w5 : World) (a : Nat) (hO : HO ph pt pa n E w (setE l (key, a)) w5) => by
          obtain ⟨hH, hI, hE, hvE, hrow0, hbel, hB⟩ := HH.out
          obtain ⟨F', L', ⟨E', k1, k2, k3⟩, k4⟩ := hO
          have hr5 : OwnE encN 4 60 w5 base (.slice A l.length c) l := by
            exact hrow0.heap fun g hg => k3.block g (hrow0.lt g hg).2 (hvE g hg)
          exact put_ref hr5 (by omega) HRise.out.1 (key, a) HNK.out)
        have HEND := Lib.hid (fun (w5 w6 : World) (a : Nat) (v' : Value) (ha : a < 4294967296) (hO : HO ph pt pa n E w (setE l (key, a)) w5) (hb : Below w5.heap.size w5 w6) (hr : OwnE encN 4 60 w6 w5.heap.size v' (setE l (key, a))) => by
          obtain ⟨hH, hI, hE, hvE, hrow0, hbel, hB⟩ := HH.out
          exact LawS.mk2 hbel hB hE hO hb hr (setL_new HRise.out.2 hk ha))
        have HBX := Lib.hid (fun (w5 : World) (a : Nat) (hO : HO ph pt pa n E w (setE l (key, a)) w5) (ho : Outs E w3 w5) => by
          obtain ⟨hH, hI, hE, hvE, hrow0, hbel, hB⟩ := HH.out
          exact (ho.block w.heap.size (by have := HZ3.out; omega) (fun e => by have := (hE _ e).2; omega)).trans HX3.out)
        have hH3 := HH.out.1.below HB13.out.2
        have HH3 := Lib.hid hH3
        have y1 := hH3.reads.2
        have zc : ((0 : Nat) : Int) = 0 := rfl
        unfold ptrV at y1
        clear hH3
        by_cases k0 : kd % 7 = 0 ∨ kd % 7 = 1
        · have e01 : (((kd : Int) % 7) == 0) = true ∨ ((((kd : Int) % 7) == 0) = false ∧ (((kd : Int) % 7) == 1) = true) := by
            rcases k0 with k0 | k0
            · exact .inl (by rw [beq_iff_eq]; omega)
            · exact .inr ⟨by rw [beq_eq_false_iff_ne]; omega, by rw [beq_iff_eq]; omega⟩
          clear k0 k5 k6
          by_cases hF : F = []
          · have HT := Lib.hid (show Calls Tryz.prog 27 #[ptrV pa] w3 (fun e w' => e = .returned (.tuple #[.int .u32 0, .int .i64 30]) ∧ w' = w3) by
              obtain ⟨S, D, h1, h2, h3, h4, h5⟩ := HH3.out.has
              rw [hF] at h3
              exact allocTake_none h3)
            unfold ptrV at HT
            clear hF
            rcases e01 with e0 | ⟨e0, e1⟩
            all_goals
              go_wp2_with fail
              refine HT.out.mono ?_
              clear HT
              rintro e w4 ⟨rfl, rfl⟩
              have zc : ((0 : Nat) : Int) = 0 := rfl
              have hput := put_any HH3.out (by omega) key 0
              rw [zc] at hput
              have HPT := Lib.hid hput
              unfold ptrV keyV at HPT
              clear hput
              go_wp2_with fail
              refine HPT.out.mono ?_
              clear HPT x0 x1 x2 x3 x4 x5 x6
              rintro e w5 ⟨rfl, hr⟩
              obtain ⟨E', q1, q2, ho⟩ := hr
              have hO : HO ph pt pa n E w (setE l (key, 0)) w5 := HO.pre ⟨F, L, ⟨E', q1, q2, ho⟩, HH.out.2.1.hole HNK.out⟩ HB13.out.2 HH.out.1.lt
              clear q1 q2
              obtain ⟨x0, x1, x2, x3, x4, x5, x6⟩ := HCS.out w5 (HBX.out w5 0 hO ho)
              have hp5 := HPUT.out w5 0 hO
              unfold entV at hp5
              simp only at hp5
              rw [zc] at hp5
              have HP5 := Lib.hid hp5
              have HO5 := Lib.hid hO
              clear hp5 hO ho
              go_wp2_with fail
              refine HP5.out.mono ?_
              clear HP5 x0 x1 x2 x3 x4 x5 x6
              rintro e w6 ⟨v', rfl, hr6, hb6⟩
              have HR6 := Lib.hid (And.intro hr6 hb6)
              clear hr6 hb6
              go_wp2_with fail
              go_ret2
              exact ⟨v', _, rfl, HEND.out w5 w6 0 v' (by omega) HO5.out HR6.out.2 HR6.out.1, by have := HLEN.out 0; omega⟩
          · have HT := Lib.hid (show Calls Tryz.prog 27 #[ptrV pa] w3 (fun e w' => ∃ (x : Nat) (E1 : Nat → Prop), e = .returned (.tuple #[.int .u32 (x : Int), .int .i64 0]) ∧ x < 4294967296 ∧ HistW w' ph pt pa l (F.erase x) (setU L x (cntU L x + 1)) n E1 ∧ Grew E w3 E1 w' ∧ Outs E w3 w' ∧ HInv n (setE l (key, x)) (F.erase x) (setU L x (cntU L x + 1))) by
              obtain ⟨S, D, h1, h2, h3, h4, h5⟩ := HH3.out.has
              have hfl := HH.out.2.1.flen h3.fnodup
              refine (allocTake_some h3 hF (by omega) (fun x hx => by rw [HH.out.2.1.dis x hx]; omega)).mono ?_
              rintro e w' ⟨x, D', rfl, hx, hA, hg, ho⟩
              obtain ⟨E1, q1, q2, q3⟩ := HistW.alloced h1 h2 h3 h4 h5 hA hg ho
              exact ⟨x, E1, rfl, (h3.fok x hx).2, q1, q2, q3, HH.out.2.1.take h3.fnodup HNK.out hx fun y => cntU_set _ _ _ _⟩)
            unfold ptrV at HT
            clear hF
            rcases e01 with e0 | ⟨e0, e1⟩
            all_goals
              go_wp2_with fail
              refine HT.out.mono ?_
              clear HT x0 x1 x2 x3 x4 x5 x6
              rintro e w4 ⟨x, E1, rfl, hax, q1, q2, q3, hI4⟩
              have hX4 := (q3.block w.heap.size (by have := HZ3.out; omega) (fun e => by have := (HH.out.2.2.1 _ e).2; omega)).trans HX3.out
              obtain ⟨x0, x1, x2, x3, x4, x5, x6⟩ := HCS.out w4 hX4
              have HPT := Lib.hid (put_any q1 (by omega) key x)
              have HQ := Lib.hid (And.intro q2 (And.intro q3 hI4))
              unfold ptrV keyV at HPT
              clear q1 q2 q3 hI4 hX4
              go_wp2_with fail
              refine HPT.out.mono ?_
              clear HPT x0 x1 x2 x3 x4 x5 x6
              rintro e w5 ⟨rfl, hr⟩
              obtain ⟨E', q1, q2, ho⟩ := HT.trans HQ.out.1 HQ.out.2.1 hr
              have hO : HO ph pt pa n E w (setE l (key, x)) w5 := HO.pre ⟨_, _, ⟨E', q1, q2, ho⟩, HQ.out.2.2⟩ HB13.out.2 HH.out.1.lt
              clear q1 q2 hr
              obtain ⟨x0, x1, x2, x3, x4, x5, x6⟩ := HCS.out w5 (HBX.out w5 x hO ho)
              have hp5 := HPUT.out w5 x hO
              unfold entV at hp5
              simp only at hp5
              skip
              have HP5 := Lib.hid hp5
              have HO5 := Lib.hid hO
              clear hp5 hO ho
              go_wp2_with fail
              refine HP5.out.mono ?_
              clear HP5 x0 x1 x2 x3 x4 x5 x6
              rintro e w6 ⟨v', rfl, hr6, hb6⟩
              have HR6 := Lib.hid (And.intro hr6 hb6)
              clear hr6 hb6
              go_wp2_with fail
              go_ret2
              exact ⟨v', _, rfl, HEND.out w5 w6 x v' hax HO5.out HR6.out.2 HR6.out.1, by have := HLEN.out x; omega⟩
        · have e0 : (((kd : Int) % 7) == 0) = false := by rw [beq_eq_false_iff_ne]; omega
          have e1 : (((kd : Int) % 7) == 1) = false := by rw [beq_eq_false_iff_ne]; omega
          by_cases k2 : kd % 7 = 2
          · have e2 : (((kd : Int) % 7) == 2) = true := by rw [beq_iff_eq]; omega
            clear k0 k2 k5 k6
            have hput := put_any HH3.out (by omega) key 0
            rw [zc] at hput
            have HPT := Lib.hid hput
            unfold ptrV keyV at HPT
            clear hput
            go_wp2_with fail
            refine HPT.out.mono ?_
            clear HPT x0 x1 x2 x3 x4 x5 x6
            rintro e w5 ⟨rfl, hr⟩
            obtain ⟨E', q1, q2, ho⟩ := hr
            have hO : HO ph pt pa n E w (setE l (key, 0)) w5 := HO.pre ⟨F, L, ⟨E', q1, q2, ho⟩, HH.out.2.1.hole HNK.out⟩ HB13.out.2 HH.out.1.lt
            clear q1 q2
            obtain ⟨x0, x1, x2, x3, x4, x5, x6⟩ := HCS.out w5 (HBX.out w5 0 hO ho)
            have hp5 := HPUT.out w5 0 hO
            unfold entV at hp5
            simp only at hp5
            rw [zc] at hp5
            have HP5 := Lib.hid hp5
            have HO5 := Lib.hid hO
            clear hp5 hO ho
            go_wp2_with fail
            refine HP5.out.mono ?_
            clear HP5 x0 x1 x2 x3 x4 x5 x6
            rintro e w6 ⟨v', rfl, hr6, hb6⟩
            have HR6 := Lib.hid (And.intro hr6 hb6)
            clear hr6 hb6
            go_wp2_with fail
            go_ret2
            exact ⟨v', _, rfl, HEND.out w5 w6 0 v' (by omega) HO5.out HR6.out.2 HR6.out.1, by have := HLEN.out 0; omega⟩
          · have e2 : (((kd : Int) % 7) == 2) = false := by rw [beq_eq_false_iff_ne]; omega
            clear k0 k2 k5 k6
            by_cases hl0 : l.length = 0
            · have g0 : ¬ ((0 : Int) < (l.length : Int)) := by omega
              clear hl0
              have hput := share_hole HH3.out (by omega) key
              skip
              have HPT := Lib.hid hput
              unfold ptrV keyV at HPT
              clear hput
              go_wp2_with fail
              refine HPT.out.mono ?_
              clear HPT x0 x1 x2 x3 x4 x5 x6
              rintro e w5 ⟨rfl, hr⟩
              obtain ⟨E', q1, q2, ho⟩ := hr
              have hO : HO ph pt pa n E w (setE l (key, 0)) w5 := HO.pre ⟨F, L, ⟨E', q1, q2, ho⟩, HH.out.2.1.hole HNK.out⟩ HB13.out.2 HH.out.1.lt
              clear q1 q2
              obtain ⟨x0, x1, x2, x3, x4, x5, x6⟩ := HCS.out w5 (HBX.out w5 0 hO ho)
              have hp5 := HPUT.out w5 0 hO
              unfold entV at hp5
              simp only at hp5
              rw [zc] at hp5
              have HP5 := Lib.hid hp5
              have HO5 := Lib.hid hO
              clear hp5 hO ho
              go_wp2_with fail
              refine HP5.out.mono ?_
              clear HP5 x0 x1 x2 x3 x4 x5 x6
              rintro e w6 ⟨v', rfl, hr6, hb6⟩
              have HR6 := Lib.hid (And.intro hr6 hb6)
              clear hr6 hb6
              go_wp2_with fail
              go_ret2
              exact ⟨v', _, rfl, HEND.out w5 w6 0 v' (by omega) HO5.out HR6.out.2 HR6.out.1, by have := HLEN.out 0; omega⟩
            · have g0 : ((0 : Int) < (l.length : Int)) := by omega
              have hil : nm % l.length < l.length := Nat.mod_lt _ (by omega)
              have sm : (nm : Int) % (l.length : Int) = ((nm % l.length : Nat) : Int) := by rw [Int.natCast_emod]
              obtain ⟨x, hx⟩ : ∃ x, l[nm % l.length]? = some x := ⟨_, List.getElem?_eq_getElem hil⟩
              obtain ⟨g, o, rfl, hc⟩ := (HROW.out.below HB13.out.2 (Nat.le_refl _)).2 _ x hx
              have c3 := hc 3 _ rfl
              have hxl := List.mem_of_getElem? hx
              have hax := (HRise.out.2 x hxl).2
              have hca := HH.out.2.1.cnt x.2
              have hcp := cntA_pos hxl
              have hcl := cntA_le l x.2
              have i1 : ((nm % l.length : Nat) : Int) < (l.length : Int) := by omega
              have i0 : (0 : Int) ≤ ((nm % l.length : Nat) : Int) := by omega
              have gl : ((l.length : Int) == 0) = false := by rw [beq_eq_false_iff_ne]; omega
              have gl' : ¬ (l.length : Int) = 0 := by omega
              clear hx hc hxl hl0 hil
              generalize nm % l.length = i at *
              by_cases ha0 : x.2 = 0
              · have za : (x.2 : Int) = 0 := by omega
                rw [za] at c3
                clear ha0 za hca
                have hput := share_hole HH3.out (by omega) key
                skip
                have HPT := Lib.hid hput
                unfold ptrV keyV at HPT
                clear hput
                go_wp2_with fail
                refine HPT.out.mono ?_
                clear HPT x0 x1 x2 x3 x4 x5 x6
                rintro e w5 ⟨rfl, hr⟩
                obtain ⟨E', q1, q2, ho⟩ := hr
                have hO : HO ph pt pa n E w (setE l (key, 0)) w5 := HO.pre ⟨F, L, ⟨E', q1, q2, ho⟩, HH.out.2.1.hole HNK.out⟩ HB13.out.2 HH.out.1.lt
                clear q1 q2
                obtain ⟨x0, x1, x2, x3, x4, x5, x6⟩ := HCS.out w5 (HBX.out w5 0 hO ho)
                have hp5 := HPUT.out w5 0 hO
                unfold entV at hp5
                simp only at hp5
                rw [zc] at hp5
                have HP5 := Lib.hid hp5
                have HO5 := Lib.hid hO
                clear hp5 hO ho
                go_wp2_with fail
                refine HP5.out.mono ?_
                clear HP5 x0 x1 x2 x3 x4 x5 x6
                rintro e w6 ⟨v', rfl, hr6, hb6⟩
                have HR6 := Lib.hid (And.intro hr6 hb6)
                clear hr6 hb6
                go_wp2_with fail
                go_ret2
                exact ⟨v', _, rfl, HEND.out w5 w6 0 v' (by omega) HO5.out HR6.out.2 HR6.out.1, by have := HLEN.out 0; omega⟩
              · have hcc := hca (by omega)
                have HPT := Lib.hid (share_block HH3.out (by omega) key x.2 (by omega) hax (by omega) (by omega))
                have HIS := Lib.hid (HH.out.2.1.share HNK.out (by omega) (by omega) (fun y => cntU_set L x.2 (cntU L x.2 + 1) y))
                unfold ptrV keyV at HPT
                clear ha0 hca hcc hcp hcl
                go_wp2_with fail
                refine HPT.out.mono ?_
                clear HPT x0 x1 x2 x3 x4 x5 x6 c3
                rintro e w5 ⟨rfl, hr⟩
                obtain ⟨E', q1, q2, ho⟩ := hr
                have hO : HO ph pt pa n E w (setE l (key, x.2)) w5 := HO.pre ⟨_, _, ⟨E', q1, q2, ho⟩, HIS.out⟩ HB13.out.2 HH.out.1.lt
                clear q1 q2
                obtain ⟨x0, x1, x2, x3, x4, x5, x6⟩ := HCS.out w5 (HBX.out w5 x.2 hO ho)
                have hp5 := HPUT.out w5 x.2 hO
                unfold entV at hp5
                simp only at hp5
                skip
                have HP5 := Lib.hid hp5
                have HO5 := Lib.hid hO
                clear hp5 hO ho
                go_wp2_with fail
                refine HP5.out.mono ?_
                clear HP5 x0 x1 x2 x3 x4 x5 x6
                rintro e w6 ⟨v', rfl, hr6, hb6⟩
                have HR6 := Lib.hid (And.intro hr6 hb6)
                clear hr6 hb6
                go_wp2_with fail
                go_ret2
                exact ⟨v', _, rfl, HEND.out w5 w6 x.2 v' hax HO5.out HR6.out.2 HR6.out.1, by have := HLEN.out x.2; omega⟩
end Go.Proofs.YtejhbaeeaejcaaaGreat
