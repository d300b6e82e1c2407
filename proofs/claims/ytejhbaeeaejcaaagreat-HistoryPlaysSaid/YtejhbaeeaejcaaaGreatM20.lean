/- The walks of slices.AppendSeq, Collect and Sorted over maps.Keys, and of refs.Table's All: each number that is told is a key. Conditions: those of each theorem. -/
import Derived.Test.YtejhbaeeaejcaaaGreatM16
import Derived.Test.YtejhbaeeaejcaaaGreatM10
import Derived.Test.YtejhbaeeaejcaaaGreatM6
import Derived.Test.YtejhbaeeaejcaaaGreatM19
import Derived.Test.YtejhbaeeaejcaaaGreatM5
import Derived.Test.YtejhbaeeaejcaaaGreatM2
namespace Go.Proofs.YtejhbaeeaejcaaaGreat
open Go Go.RowKit Go.Shelf Go.Maps
attribute [local go_sem] Oper.semAt_some

theorem OwnE.pushU {w : World} {B : Nat} {v : Value} {l : List Nat} (h : OwnE encA 1 24 w B v l) (x : Nat) (hl : l.length ≤ 100000000) (hB : B ≤ w.heap.size) :
    ∃ v' w', (Builtin.append_ #[40, 40] 40 #[v, .slice (some ⟨w.heap.size, 0, none⟩) 1 1]).run Tryz.prog (w.alloc (.cells #[.int .u32 (x : Int)] 24)) = .ok v' w' ∧ OwnE encA 1 24 w' B v' (l ++ [x]) ∧ w.grownBy w' v.ownBlock ∧ (v'.ownBlock = v.ownBlock ∨ ∃ g, v'.ownBlock = some g ∧ w.heap.size ≤ g) := by
  obtain ⟨i0, hi, hz0, hz1, hz2⟩ := info_cut infoU32
  have h1 : RowE encA 1 (w.alloc (.cells #[.int .u32 (x : Int)] 24)) (some ⟨w.heap.size, 0, none⟩) 1 [x] := RowE.new (enc := encA) (k := 1) w x 24
  obtain ⟨v', w', hr, ho, hg, -, hat⟩ := run_append_own_at (P := Tryz.prog) (w.alloc (.cells #[.int .u32 (x : Int)] 24)) B 40 40 24 i0 _ 1 4 Tryz.underlying40 hi hz0 hz1 hz2 rfl (by decide) v l.length _ (h.alloc _) ⟨w.heap.size, 0, none⟩ 1 1 (cellsE encA [x]) rfl (RowE.cells encA_len (by decide) h1) (fun u hu => by
    obtain ⟨x, -, hx⟩ := List.mem_flatMap.1 hu
    exact encA_one x u hx) (by unfold maxLen; omega) (by omega) (by rw [World.alloc_size]; omega)
  refine ⟨v', w', hr, ?_, ⟨hg.os, hg.tape, hg.output, Nat.le_trans (by simp) hg.size, fun j hj hne => ?_⟩, ?_⟩
  · unfold OwnE
    rw [cellsE_app, List.length_append]
    exact ho
  · rw [hg.block j (by rw [World.alloc_size]; omega) hne, Below.heap_alloc _ _ _ hj]
  · rcases hat with h | h
    · exact .inl h
    · exact .inr ⟨_, h, by rw [World.alloc_size]; omega⟩

/-- What has come so far. -/
def ColI (L : List Uc) (ob : Nat) (xs : List (KeyU L)) (D : Nat → Prop) (W : World) : Prop :=
  ∃ v, (∀ j, D j ↔ j = ob ∨ v.ownBlock = some j) ∧ W.heap[ob]? = some (.cells #[v] 40 (0, 0)) ∧ OwnE encA 1 24 W (ob + 1) v (xs.map (·.1))
theorem colI_local (L : List Uc) (ob : Nat) : Local (ColI L ob) := fun xs D A B h hk => by
  obtain ⟨v, hD, h1, h2⟩ := h
  exact ⟨v, hD, (hk.block ob ((hD ob).2 (.inl rfl))).trans h1, h2.heap (fun g hg => hk.block g ((hD g).2 (.inr hg)))⟩
def ColI1 (L : List Uc) (ob : Nat) (mk : KeyU L → Act) (xs : List (KeyU L)) (x : KeyU L) (a' : Act) (D : Nat → Prop) (W : World) : Prop := ColI L ob xs D W ∧ a' = mk x
theorem colI1_local (L : List Uc) (ob : Nat) (mk : KeyU L → Act) (xs : List (KeyU L)) (x : KeyU L) (a' : Act) : Local (fun (_ : Unit) => ColI1 L ob mk xs x a') := fun _ D A B h hk => ⟨colI_local L ob _ _ _ _ h.1 hk, h.2⟩

set_option maxRecDepth 100000 in
set_option maxHeartbeats 8000000 in
theorem appendSeq_keys {w : World} {bm : Nat} {X : Nat → Prop} {L : List Uc} (hXlt : ∀ j, X j → j < w.heap.size) (hL : L.length ≤ 100000)
    (hseq : SeqSep Fence.wide 5 Tryz.prog 90 #[.pointer (some ⟨bm, 0, none⟩)] (fun x : KeyU L => #[.int .u32 (x.1 : Int)]) (fun ys => ys.length ≤ L.length) (fun _ => True) X L.length w) :
    Calls Tryz.prog 111 #[.slice none 0 0, .func (.func 90) #[] #[.pointer (some ⟨bm, 0, none⟩)]] w fun e w' => ∃ v xs, e = .returned v ∧ (∀ x ∈ xs, IsKey L x) ∧ xs.length ≤ L.length ∧ OwnE encA 1 24 w' w.heap.size v xs ∧ Below w.heap.size w w' := by
  have hb1 : Below w.heap.size w (w.alloc (.cells #[.slice none 0 0] 40)) := (Below.refl _ _).alloc (Nat.le_refl _) _
  have hob := heap_alloc_new w (.cells #[.slice none 0 0] 40)
  have hsz1 := World.alloc_size w (.cells #[.slice none 0 0] 40)
  have HSEQ := Lib.hid hseq
  clear hseq
  refine (callsIn_wide (n := 6)).1 ?_
  refine callsIn_of_wp_marks Tryz.func111 rfl trivial ?_ rfl
  refine wpIn_wide.2 ?_
  simp only [Tryz.ntmps111, List.size_toArray, List.length_cons, List.length_nil, Nat.reduceAdd, Nat.reduceSub, Array.replicate_succ, Array.replicate_zero, List.push_toArray, List.append_toArray, List.nil_append, List.cons_append]
  have HOB := Lib.hid hob
  have HB1 := Lib.hid hb1
  clear hob hb1
  go_wp2_with fail
  generalize w.alloc (.cells #[.slice none 0 0] 40) = w1 at *
  refine (wpIn_wide (n := 6)).1 (wpIn_rangeFunc_sep (n := 6) (F := Fence.wide) rfl (by omega) (gf := 90) (lb := #[.pointer (some ⟨bm, 0, none⟩)]) rfl trivial (enters_of Tryz.func90 (by kernel_rfl) rfl)
    HSEQ.out (Kept.of_below HB1.out hXlt) (fun j hj => by have := hXlt j hj; omega) (fun _ => rfl)
    (ColI L w.heap.size) (fun _ _ _ _ => False)
    (ColI1 L w.heap.size (fun x => { tmps := #[.slice none 0 0, .func (.func 90) #[] #[.pointer (some ⟨bm, 0, none⟩)], .pointer (some ⟨w.heap.size, 0, none⟩), undef, .slice none 0 0, .int .u32 (x.1 : Int), .func (.func 90) #[] #[.pointer (some ⟨bm, 0, none⟩)], .int .u32 (x.1 : Int), undef, undef, undef, undef, undef], defers := [] }))
    (colI_local L _) (fun c s D A B h hk => h) (fun pre x a' => colI1_local L _ _ _ _ _)
    (fun j => j = w.heap.size) (fun j hj => by omega) (fun j hj hx => by have := hXlt j hx; omega) ⟨.slice none 0 0, fun j => ⟨.inl, fun h => h.elim id (fun h => by cases h)⟩, HOB.out, World.ownsRow_nil _ _ _ _⟩
    ?assign ?body ?done ?stop)
  case assign =>
    intro l2 pre x D Wr K hI hlt _ hK
    gi_wp2
    exact hK _ D _ ⟨fun j hj => .inl hj, hlt⟩ (Outs.refl _ _) ⟨hI, rfl⟩
  case body =>
    rintro l2 pre x a' D Wr hl2 ⟨r0, hr0⟩ hnl hDlt hDX2 hkX ⟨⟨v, hD, h1, h2⟩, rfl⟩ hlen -
    have q0 := cell_of_row _ _ 0 _ _ _ h1
    simp at q0
    have hob1 : w.heap.size < Wr.heap.size := (Array.getElem?_eq_some_iff.1 h1).1
    obtain ⟨v', w', hap, ho', hg', hat⟩ := h2.pushU x.1 (by rw [List.length_map]; omega) (by omega)
    have hkl := h2.lt
    have hob9 : w'.heap[w.heap.size]? = some (.cells #[v] 40 (0, 0)) := (hg'.block _ hob1 (fun h => by have := (hkl _ h.symm).1; omega)).trans h1
    have q9 := cell_of_row _ _ 0 _ _ _ hob9
    simp at q9
    have f9 : ∀ i, w'.frozen? ⟨w.heap.size, i, none⟩ = false := fun i => by simp [World.frozen?, hob9]
    obtain ⟨a0, n0, c0, rfl⟩ := h2.form
    obtain ⟨a1, n1, c1, rfl⟩ := ho'.form
    have hs9 := heap_setCell_same w' w.heap.size 0 _ _ (.slice a1 n1 c1) hob9
    have hT9 : Turn w.heap.size w' (w'.setCell ⟨w.heap.size, 0, none⟩ (.slice a1 n1 c1)) := ⟨rfl, rfl, rfl, by simp, fun j hj => by rw [heap_setCell_other _ _ j _ hj]⟩
    have hlt' := ho'.lt
    have hF : sepPost (ColI L w.heap.size) (fun _ _ _ _ => False) (pre ++ [x]) D Wr .normal { tmps := #[], defers := [] } (w'.setCell ⟨w.heap.size, 0, none⟩ (.slice a1 n1 c1)) := by
      refine ⟨fun j => j = w.heap.size ∨ (Value.slice a1 n1 c1).ownBlock = some j, ⟨fun j hj => ?_, fun j hj => ?_⟩, ⟨hg'.os, hg'.tape, hg'.output, by rw [hT9.size]; exact hg'.size, fun j hj hn => ?_⟩, _, fun j => Iff.rfl, hs9, by rw [List.map_append]; exact ho'.heap (fun g hgo => hT9.block g (fun e => by have := (hlt' g hgo).1; omega))⟩
      · rcases hj with h | h
        · exact .inl ((hD j).2 (.inl h))
        · rcases hat with h5 | ⟨g, h5, h6⟩
          · exact .inl ((hD j).2 (.inr (h5.symm.trans h)))
          · rw [h] at h5
            cases h5
            exact .inr h6
      · rw [hT9.size]
        rcases hj with h | h
        · have := hg'.size; omega
        · exact (hlt' j h).2
      · rw [hT9.block j (fun e => hn ((hD j).2 (.inl e))), hg'.block j hj (fun e => hn ((hD j).2 (.inr e.symm)))]
    have HF := Lib.hid hF
    clear hF hs9 hT9 hlt' hat hkl ho' hg' h1 h2
    gi_wp2_with (gi_at_builtin; refine wpListIn_append_run rfl _ _ _ rfl hap ?_)
    exact HF.out
  case done =>
    rintro Dd xs D Wr hDd hxl ⟨v, hD, h1, h2⟩ hg ho hnD hK
    have q0 := cell_of_row _ _ 0 _ _ _ h1
    simp at q0
    obtain ⟨a0, n0, c0, rfl⟩ := h2.form
    have hbw : Below w.heap.size w Wr := ⟨ho.os.trans HB1.out.os, ho.tape.trans HB1.out.tape, ho.output.trans HB1.out.output, Nat.le_trans HB1.out.size ho.size, fun j hj => (ho.block j (by omega) (by omega)).trans (HB1.out.block j hj)⟩
    have hgp := grownBy_putObj' Wr Dd (.deferred none)
    have hown : OwnE encA 1 24 (Wr.putObj Dd (.deferred none)) w.heap.size (.slice a0 n0 c0) (xs.map (·.1)) := (h2.base (by omega)).heap (fun g hg9 => hgp.block g (h2.lt g hg9).2 (fun e => by cases e; exact hnD ((hD _).2 (.inr hg9))))
    have hbw2 := hbw.grown hgp (by have := hbw.size; omega) (fun j hj => by cases hj; omega)
    have HF := Lib.hid (And.intro hown hbw2)
    clear hown hbw2 hgp hbw h1 h2 hg ho
    go_wp2_with fail
    refine ⟨by simp, .inl ⟨_, _, rfl, run_takeDeferred hK, ?_⟩⟩
    exact ⟨_, results_tmp (t := 4) rfl _ _ _, .slice a0 n0 c0, xs.map (·.1), rfl, fun y hy => by obtain ⟨x, -, rfl⟩ := List.mem_map.1 hy; exact x.2, by rw [List.length_map]; exact hxl, HF.out.1, HF.out.2⟩
  case stop =>
    rintro Dd c pre D Wr hDd hSp hIx
    exact hIx.elim

set_option maxRecDepth 100000 in
set_option maxHeartbeats 4000000 in
theorem collect_keys {w : World} {bm : Nat} {X : Nat → Prop} {L : List Uc} (hXlt : ∀ j, X j → j < w.heap.size) (hL : L.length ≤ 100000)
    (hseq : SeqSep Fence.wide 5 Tryz.prog 90 #[.pointer (some ⟨bm, 0, none⟩)] (fun x : KeyU L => #[.int .u32 (x.1 : Int)]) (fun ys => ys.length ≤ L.length) (fun _ => True) X L.length w) :
    Calls Tryz.prog 88 #[.func (.func 90) #[] #[.pointer (some ⟨bm, 0, none⟩)]] w fun e w' => ∃ v xs, e = .returned v ∧ (∀ x ∈ xs, IsKey L x) ∧ xs.length ≤ L.length ∧ OwnE encA 1 24 w' w.heap.size v xs ∧ Below w.heap.size w w' := by
  have HA := Lib.hid (appendSeq_keys hXlt hL hseq)
  clear hseq hXlt
  go_enter Tryz.func88, Tryz.ntmps88
  go_wp2_with fail
  refine HA.out.mono ?_
  rintro e w' ⟨v, xs, rfl, h1, h2, h3, h4⟩
  have HF := Lib.hid (And.intro h1 (And.intro h2 (And.intro h3 h4)))
  clear h1 h2 h3 h4
  go_wp2_with fail
  go_ret
  exact ⟨v, xs, rfl, HF.out⟩

theorem OwnE.rw32 {w : World} {B g n c : Nat} {xs : List Nat} (h : OwnE encA 1 24 w B (.slice (some ⟨g, 0, none⟩) n c) xs) : Rw32 w g xs ∧ xs.length = n := by
  rcases h.2 with ⟨h1, -⟩ | ⟨g', cap, cur, h1, -, h2, h3, h4, h5, h6⟩
  · cases h1
  · cases h1
    refine ⟨⟨cur, h2, fun i x hx => ?_⟩, rfl⟩
    have h7 : (cellsE encA xs)[i]? = some (.int .u32 (x : Int)) := by
      clear h6 h5 h4 h3 h2 h
      induction xs generalizing i with
      | nil => simp at hx
      | cons y ys ih =>
        cases i with
        | zero => simp only [List.getElem?_cons_zero, Option.some.injEq] at hx; subst hx; rfl
        | succ i => exact ih i (by simpa using hx)
    have hi : i < xs.length := (List.getElem?_eq_some_iff.1 hx).1
    have h8 : (cur.toList.take (xs.length * 1))[i]? = some (.int .u32 (x : Int)) := by rw [h6]; exact h7
    rw [List.getElem?_take_of_lt (by omega)] at h8
    simpa using h8
theorem Rw32.rowE {w : World} {g : Nat} {xs : List Nat} (h : Rw32 w g xs) : RowE encA 1 w (some ⟨g, 0, none⟩) xs.length xs := by
  obtain ⟨cs, h1, h2⟩ := h
  refine ⟨rfl, fun i r hr => ⟨g, 0, rfl, fun j x hx => ?_⟩⟩
  have hj : j = 0 := by
    have := (List.getElem?_eq_some_iff.1 hx).1
    have h0 : (encA r).length = 1 := rfl
    omega
  subst hj
  simp only [encA, List.getElem?_cons_zero, Option.some.injEq] at hx
  subst hx
  have h3 := h2 i r hr
  show (match w.heap[g]? with | some (.cells c _ _) => c[0 + i * 1 + 0]? | _ => none) = _
  rw [h1]
  simpa [atV] using h3

set_option maxRecDepth 100000 in
set_option maxHeartbeats 4000000 in
theorem sorted_keys {w : World} {bm : Nat} {X : Nat → Prop} {L : List Uc} (hXlt : ∀ j, X j → j < w.heap.size) (hL : L.length ≤ 100000)
    (hseq : SeqSep Fence.wide 5 Tryz.prog 90 #[.pointer (some ⟨bm, 0, none⟩)] (fun x : KeyU L => #[.int .u32 (x.1 : Int)]) (fun ys => ys.length ≤ L.length) (fun _ => True) X L.length w) :
    Calls Tryz.prog 61 #[.func (.func 90) #[] #[.pointer (some ⟨bm, 0, none⟩)]] w fun e w' => ∃ a c xs, e = .returned (.slice a xs.length c) ∧ (∀ x ∈ xs, IsKey L x) ∧ xs.length ≤ L.length ∧ RowE encA 1 w' a xs.length xs ∧ Below w.heap.size w w' := by
  have HA := Lib.hid (collect_keys hXlt hL hseq)
  clear hseq hXlt
  go_enter Tryz.func61, Tryz.ntmps61
  go_wp2_with fail
  refine HA.out.mono ?_
  rintro e w' ⟨v, xs, rfl, h1, h2, h3, h4⟩
  rcases h3.2 with ⟨rfl, h5⟩ | ⟨g, cap, cur, rfl, hbg, h6⟩
  · have hx : xs = [] := List.eq_nil_of_length_eq_zero h5
    subst hx
    have HS := Lib.hid (sort_none32 (w := w'))
    have HF := Lib.hid h4
    clear h1 h2 h3 h4
    go_wp2_with fail
    refine HS.out.mono ?_
    rintro e w2 ⟨rfl, rfl⟩
    go_wp2_with fail
    go_ret
    exact ⟨none, 0, [], rfl, by simp, by simp, RowE.nil _ _ _ _, HF.out⟩
  · have h7 := h3.rw32
    have HS := Lib.hid (sort_u32 (c := cap) h7.1 h7.2 (by omega))
    have HF := Lib.hid (And.intro h1 (And.intro h2 h4))
    clear h1 h2 h3 h4 h6 h7
    go_wp2_with fail
    refine HS.out.mono ?_
    rintro e w2 ⟨rfl, ys, hp, hr, hg⟩
    have hb2 := HF.out.2.2.grown hg (HF.out.2.2.size) (fun j hj => by cases hj; exact hbg)
    have hr2 := hr.rowE
    have hl := hp.length_eq
    have HG := Lib.hid (And.intro hb2 hr2)
    clear hb2 hr2 hr hg
    go_wp2_with fail
    go_ret
    refine ⟨some ⟨g, 0, none⟩, cap, ys, by rw [hl]; rfl, fun x hx => HF.out.1 x (hp.subset hx), by have := HF.out.2.1; omega, HG.out.2, HG.out.1⟩

set_option maxRecDepth 100000 in
set_option maxHeartbeats 4000000 in
theorem mapsKeys_any (om : Option Nat) (w : World) :
    Calls Tryz.prog 62 #[.map om] w fun e w' => e = .returned (.func (.func 90) #[] #[.pointer (some ⟨w.heap.size, 0, none⟩)]) ∧ w' = w.alloc (.cells #[.map om] 81) := by
  go_enter Tryz.func62, Tryz.ntmps62
  go_wp2_with fail
  go_ret
  exact ⟨rfl, rfl⟩

set_option maxRecDepth 100000 in
set_option maxHeartbeats 4000000 in
theorem refsAll_any {w : World} {pa : Nat} {a0 : Value} {om : Option Nat} {s : Int} {a3 a4 a5 : Value} (h : AB w pa a0 om s a3 a4 a5) {L : List Uc} (hm : UMapO w om L) (hL : L.length ≤ 100000) :
    Calls Tryz.prog 41 #[.pointer (some ⟨pa, 1, none⟩)] w fun e w' => ∃ a c xs, e = .returned (.slice a xs.length c) ∧ (∀ x ∈ xs, IsKey L x) ∧ xs.length ≤ L.length ∧ RowE encA 1 w' a xs.length xs ∧ Below w.heap.size w w' := by
  obtain ⟨-, c1, -⟩ := h.reads
  have HK := Lib.hid (mapsKeys_any om w)
  have hb1 : Below w.heap.size w (w.alloc (.cells #[.map om] 81)) := (Below.refl _ _).alloc (Nat.le_refl _) _
  have hnew := heap_alloc_new w (.cells #[.map om] 81)
  have hsz := World.alloc_size w (.cells #[.map om] 81)
  have hA : (Calls Tryz.prog 61 #[.func (.func 90) #[] #[.pointer (some ⟨w.heap.size, 0, none⟩)]] (w.alloc (.cells #[.map om] 81)) fun e w' => ∃ a c xs, e = .returned (.slice a xs.length c) ∧ (∀ x ∈ xs, IsKey L x) ∧ xs.length ≤ L.length ∧ RowE encA 1 w' a xs.length xs ∧ Below w.heap.size w w') := by
    have go : ∀ X : Nat → Prop, (∀ j, X j → j < w.heap.size + 1) → SeqSep Fence.wide 5 Tryz.prog 90 #[.pointer (some ⟨w.heap.size, 0, none⟩)] (fun x : KeyU L => #[.int .u32 (x.1 : Int)]) (fun ys => ys.length ≤ L.length) (fun _ => True) X L.length (w.alloc (.cells #[.map om] 81)) → (Calls Tryz.prog 61 #[.func (.func 90) #[] #[.pointer (some ⟨w.heap.size, 0, none⟩)]] (w.alloc (.cells #[.map om] 81)) fun e w' => ∃ a c xs, e = .returned (.slice a xs.length c) ∧ (∀ x ∈ xs, IsKey L x) ∧ xs.length ≤ L.length ∧ RowE encA 1 w' a xs.length xs ∧ Below w.heap.size w w') := fun X hX hs =>
      (sorted_keys (fun j hj => by rw [hsz]; exact hX j hj) hL hs).mono fun e w' h => by
        obtain ⟨a, c, xs, h1, h2, h3, h4, h5⟩ := h
        exact ⟨a, c, xs, h1, h2, h3, h4, hb1.trans (h5.mono (by omega))⟩
    rcases hm with ⟨rfl, rfl⟩ | ⟨m, rfl, hm⟩
    · exact go _ (fun j hj => by cases hj; omega) (keys_seq_nil (n := 5) (by omega) hnew)
    · have hl := hm.lt
      exact go _ (fun j hj => by rcases hj with rfl | rfl <;> omega) (keys_seq (n := 5) (by omega) hnew (hm.heap (Below.heap_alloc _ _ _ hl)))
  have HA := Lib.hid hA
  clear h hm hnew hsz hb1 hA
  go_enter Tryz.func41, Tryz.ntmps41
  go_wp2_with fail
  refine HK.out.mono ?_
  rintro e w' ⟨rfl, rfl⟩
  go_wp2_with fail
  refine HA.out.mono ?_
  rintro e w' ⟨a, c, xs, rfl, h1, h2, h3, h4⟩
  have HF := Lib.hid (And.intro h1 (And.intro h2 (And.intro h3 h4)))
  clear h1 h2 h3 h4
  go_wp2_with fail
  go_ret
  exact ⟨a, c, xs, rfl, HF.out⟩
end Go.Proofs.YtejhbaeeaejcaaaGreat
/- The walk of alloc.Sound at an alloc of which nothing is sure and nothing waits. Conditions: those of each theorem. -/
namespace Go.Proofs.YtejhbaeeaejcaaaGreat
open Go.RowKit

theorem cntU_pos {L : List Uc} (hp : ∀ p ∈ L, 0 < p.2) (x : Nat) : 0 < cntU L x ↔ x ∈ L.map (·.1) := by
  induction L with
  | nil => simp [cntU]
  | cons q L ih =>
    unfold cntU
    by_cases e : q.1 = x
    · rw [if_pos e]
      have := hp q List.mem_cons_self
      simp [e, this]
    · rw [if_neg e, ih (fun p h => hp p (List.mem_cons_of_mem _ h))]
      have e' : ¬ x = q.1 := fun h => e h.symm
      simp [e']
theorem HInv.sum {n : Nat} {l : List En} {F : List Nat} {L : List Uc} (h : HInv n l F L) (hp : ∀ p ∈ L, 0 < p.2) (hF : F.Nodup) (hL : (L.map (·.1)).Nodup) : F.length + L.length = n := by
  have h1 : (F ++ L.map (·.1)).Nodup := by
    rw [List.nodup_append]
    refine ⟨hF, hL, fun a ha b hb e => ?_⟩
    subst e
    have h2 := h.dis a ha
    have h3 := (cntU_pos hp a).2 hb
    omega
  have h2 : (F ++ L.map (·.1)).Perm (upto n) := (List.perm_ext_iff_of_nodup h1 (List.nodup_iff_pairwise_ne.2 (by
    clear h h1
    induction n with
    | zero => exact List.Pairwise.nil
    | succ n ih => exact List.pairwise_cons.2 ⟨fun a ha => by have := (mem_upto.1 ha).2; omega, ih⟩))).2 fun x => by
    rw [List.mem_append, mem_upto, h.all x, cntU_pos hp]
  have h3 := h2.length_eq
  rw [List.length_append, List.length_map, upto_len] at h3
  exact h3

set_option maxRecDepth 100000 in
set_option maxHeartbeats 8000000 in
theorem sound_any {w : World} {pa : Nat} {l : List En} {F : List Nat} {L : List Uc} {n : Nat} {D : Nat → Prop} (h : AllocW w pa F L n D) (hi : HInv n l F L) (hn : n ≤ 4096) :
    Calls Tryz.prog 17 #[ptrV pa] w fun e w' => e = .returned (.bool true) ∧ Below w.heap.size w w' := by
  have hsum := hi.sum h.pos h.fnodup h.nodup
  have hkey : ∀ x, IsKey L x → x < 4294967296 ∧ decide (x ∈ F) = false := fun x hx => by
    obtain ⟨p, hp, rfl⟩ := hx
    have h1 := (cntU_pos h.pos p.1).2 (List.mem_map.2 ⟨p, hp, rfl⟩)
    have h2 := (hi.all p.1).2 (.inr h1)
    refine ⟨by omega, decide_eq_false fun h3 => ?_⟩
    have := hi.dis _ h3
    omega
  have hd := h.kept (w' := w.drew) (Kept.of_below (Below.refl _ _).drew h.lt)
  obtain ⟨pf, om, s, m, Df, h1, h2, h3, h4, h5, h6, h7, h8⟩ := hd.has
  obtain ⟨c0, c1, c2, c3, c4, c5, -⟩ := h1.reads
  have hs4 : w.drew.cell? ⟨pa, 0, none⟩ = some (ptrV pf) ∧ w.drew.cell? ⟨pa, 4, none⟩ = some (.slice none 0 0) ∧ w.drew.cell? ⟨pa, 5, none⟩ = some (.int .i64 (n : Int)) := ⟨c0, c4, c5⟩
  have HFL := Lib.hid (freeLen_any h2 (by omega))
  have HRL := Lib.hid (refsLen_any h1 h3)
  have HAL := Lib.hid (refsAll_any h1 h3 (by omega))
  have h2lt := h2.lt
  have HFR := Lib.hid (fun w2 (hb : Below w.drew.heap.size w.drew w2) b hb2 => freeHas_any (h2.kept (w' := w2) (Kept.of_below hb h2lt)) b hb2)
  have HCR := Lib.hid (fun w2 (hb : Below w.drew.heap.size w.drew w2) => show w2.cell? ⟨pa, 0, none⟩ = some (ptrV pf) from ((h1.heap (hb.block pa h1.lt)).reads).1)
  have hll : L.length ≤ 4096 := by omega
  have hz : (F.length : Int) + (L.length : Int) = (n : Int) := by omega
  have hz1 : IntKind.i64.wrap ((F.length : Int) + (L.length : Int)) = (n : Int) := by rw [IntWalk.i64_in _ (by omega)]; exact hz
  have hz2 : IntKind.i64.wrap (n : Int) = (n : Int) := IntWalk.i64_in _ (by omega)
  unfold ptrV at c0 hs4 HFL HFR HCR ⊢
  clear h hi h1 h2 h3 h4 h5 h6 h7 h8 hd hsum hz
  generalize F.length = fl at *
  generalize L.length = ll at *
  go_enter Tryz.func17, Tryz.ntmps17
  go_wp2_with fail
  go_region_held_law (fun W' => W'.cell? ⟨pa, 0, none⟩ = some (.pointer (some ⟨pf, 0, none⟩)) ∧ W'.cell? ⟨pa, 4, none⟩ = some (.slice none 0 0) ∧ W'.cell? ⟨pa, 5, none⟩ = some (.int .i64 (n : Int)))
    (first | exact hs4)
    (first
      | (go_at_call 38; refine HFL.out.mono ?_; rintro r w7 ⟨rfl, rfl⟩)
      | (go_at_call 39; refine HRL.out.mono ?_; rintro r w7 ⟨rfl, rfl⟩))
  all_goals
    obtain ⟨d0, d4, d5⟩ := hs4
    clear HFL HRL
    go_wp2_with fail
    refine wp_loop_rounds 1 ?_
    rw [rounds_succ]
    go_wp2_with fail
    refine HAL.out.mono ?_
    rintro e w2 ⟨a, c, xs, rfl, h1, h2, h3, h4⟩
    have HB := Lib.hid h4
    have HK := Lib.hid h1
    have HXL := Lib.hid h2
    have HROW := Lib.hid h3
    have e0 := HCR.out w2 h4
    clear h1 h2 h3 h4 HAL d0 d4 d5
    have hnl : xs.length ≤ 100000 := by have := HXL.out; omega
    generalize hxl : xs.length = nx at *
    go_wp2_with fail
    go_loopw [66] (fun u66 wr => ∃ i : Nat, i ≤ nx ∧ u66 = .int .i64 i ∧ wr = w2) (fun u66 _ => nx - (intOf u66).toNat)
    case atStart => exact ⟨0, by omega, rfl, rfl⟩
    case round =>
      obtain ⟨i, hi, rfl, rfl⟩ := hrel
      by_cases hlt : i < nx
      · have hi1 : (i : Int) < (nx : Int) := by omega
        obtain ⟨x, hx⟩ : ∃ x, xs[i]? = some x := ⟨_, List.getElem?_eq_getElem (by omega)⟩
        obtain ⟨b, o, rfl, hc⟩ := HROW.out.2 i x hx
        have z0 := hc 0 _ rfl
        simp only [Nat.add_zero, Nat.mul_one] at z0
        unfold atV at z0
        have hk := HK.out x (List.mem_of_getElem? hx)
        have hk2 := hkey x hk
        have HH := Lib.hid (HFR.out _ HB.out x hk2.1)
        rw [hk2.2] at HH
        clear hk hk2 hc hx
        go_wp2_with fail
        refine HH.out.mono ?_
        rintro e w3 ⟨rfl, rfl⟩
        go_wp2_with fail
        go_roundw
        case rel => exact ⟨i + 1, by omega, by go_num, by first | rfl | trivial⟩
        case measure => simp [intOf]; omega
      · obtain rfl : i = nx := by omega
        go_wp2_with fail
        go_ret
        exact ⟨rfl, (Below.refl w.heap.size w).drew.trans HB.out⟩
end Go.Proofs.YtejhbaeeaejcaaaGreat
/- The walk of the law's told at a history and a row that have the same versions. Conditions: those of each theorem. -/
namespace Go.Proofs.YtejhbaeeaejcaaaGreat
open Go.RowKit

theorem live_count (l : List En) : liveN l + cntA l 0 = l.length := by
  unfold liveN cntA
  induction l with
  | nil => rfl
  | cons x l ih =>
    by_cases h : x.2 = 0
    · rw [List.filter_cons, if_neg (by simp [h]), List.filter_cons, if_pos (by simp [h]), List.length_cons, List.length_cons]; omega
    · rw [List.filter_cons, if_pos (by simp [h]), List.filter_cons, if_neg (by simp [h]), List.length_cons, List.length_cons]; omega

theorem below_drewN (w : World) (q : Nat) : Below w.heap.size w (w.drewN q) := ⟨rfl, rfl, rfl, Nat.le_refl _, fun _ _ => rfl⟩
theorem equalE_same {w : World} {a a' : Option Addr} {n n' c c' : Nat} {l : List En} (h : RowE encN 4 w a n l) (h' : RowE encN 4 w a' n' l) (hn : n ≤ 1000000) :
    Calls Tryz.prog 25 #[.slice a n c, .slice a' n' c'] w fun e w' => e = .returned (.bool true) ∧ Below w.heap.size w w' :=
  (equalE_any h h' hn).mono fun e w' h => by
    obtain ⟨rfl, q, rfl⟩ := h
    exact ⟨by simp, below_drewN _ _⟩
theorem equalA_same {w : World} {a a' : Option Addr} {n n' c c' : Nat} {l : List Nat} (h : RowE encA 1 w a n l) (h' : RowE encA 1 w a' n' l) (hn : n ≤ 1000000) :
    Calls Tryz.prog 12 #[.slice a n c, .slice a' n' c'] w fun e w' => e = .returned (.bool true) ∧ Below w.heap.size w w' :=
  (equalA_any h h' hn).mono fun e w' h => by
    obtain ⟨rfl, q, rfl⟩ := h
    exact ⟨by simp, below_drewN _ _⟩

set_option maxRecDepth 100000 in
set_option maxHeartbeats 16000000 in
theorem told_any {base : Nat} {w0 : World} {ph pt pa n : Nat} {v : Value} {l : List En} {w : World} (h : LawS base w0 ph pt pa n v l w) (hl : l.length ≤ 1000) (k : Nat) (hk : k ≤ 5192296858534827628530496329220095) :
    Calls Tryz.prog 14 #[ptrV ph, v, keyV k] w fun e w' => e = .returned (.bool true) ∧ Below w.heap.size w w' := by
  have hVB : kVol k < 65536 := by unfold kVol; omega
  have hBB := kBlk_lt k
  have hSB := kSeq_lt k
  obtain ⟨ra, rc, rfl, hrow, -, -⟩ := h.row.row encN_len
  obtain ⟨w1, hw1⟩ : ∃ w1, w1 = w.alloc (.cells #[.int .u16 (kVol k : Int), .int .u32 (kBlk k : Int), .int .u64 (kSeq k : Int)] 27) := ⟨_, rfl⟩
  have hX : w1.heap[w.heap.size]? = some (.cells #[.int .u16 (kVol k : Int), .int .u32 (kBlk k : Int), .int .u64 (kSeq k : Int)] 27 (0, 0)) := by rw [hw1]; exact heap_alloc_new w _
  have hb1 : Below w.heap.size w w1 := by rw [hw1]; exact (Below.refl _ _).alloc (Nat.le_refl _) _
  have hz1 : w1.heap.size = w.heap.size + 1 := by rw [hw1, World.alloc_size]
  have hcs : ∀ W : World, Below w1.heap.size w1 W → W.cell? ⟨w.heap.size, 0, none⟩ = some (.int .u16 (kVol k : Int)) ∧ W.cell? ⟨w.heap.size, 1, none⟩ = some (.int .u32 (kBlk k : Int)) ∧ W.cell? ⟨w.heap.size, 2, none⟩ = some (.int .u64 (kSeq k : Int)) :=
    fun W hW => by
      have hW := (hW.block _ (by omega)).trans hX
      exact ⟨cell_of_row W _ 0 _ _ _ hW, cell_of_row W _ 1 _ _ _ hW, cell_of_row W _ 2 _ _ _ hW⟩
  obtain ⟨E, F, L, hH, hI, -⟩ := h.his
  have hH1 := hH.below hb1
  have hr1 := hrow.below hb1 (Nat.le_refl _)
  have hrise := hH.rise
  have hfit := h.fit
  have hs1 := hcs w1.drew (Below.refl _ _).drew
  obtain ⟨r0, -⟩ := hH1.reads
  -- what is told by either side, in a later world
  have HAT := Lib.hid (fun (W : World) (hW : Below w1.heap.size w1 W) (b : Nat) (hb : b < 4294967296) => at_any (hH1.below hW) (by omega) (kVol k) b (kSeq k) hVB hb hSB)
  have hat : ∀ (W : World) (_ : Below w1.heap.size w1 W) (b : Nat) (_ : b < 4294967296), Calls Tryz.prog 35 #[.slice ra l.length rc, .int .i64 (kVol k : Int), .int .i64 (b : Int), .int .u64 (kSeq k : Int)] W fun e w' => e = .returned (.int .u32 (atL l (kVol k) b (kSeq k) : Nat)) ∧ Below W.heap.size W w' := fun W hW b hb => by
    have := at_ref (c := rc) (hr1.below hW (Nat.le_refl _)) (by omega) hfit (kVol k) b (kSeq k)
    rw [at_eq hrise _ _ _ hb hSB] at this
    exact this
  have HAR := Lib.hid hat
  have HOF := Lib.hid (fun (W : World) (hW : Below w1.heap.size w1 W) => of_ref (c := rc) (hr1.below hW (Nat.le_refl _)) (by omega) hfit (kVol k))
  have HLV := Lib.hid (fun (W : World) (hW : Below w1.heap.size w1 W) => live_any (hH1.below hW) (by omega) (kVol k) hVB)
  have HSH := Lib.hid (fun (W : World) (hW : Below w1.heap.size w1 W) => shot_any (hH1.below hW) (by omega) (kVol k) (kSeq k) 4 hVB hSB (by omega))
  obtain ⟨S, D, t1, t2, -⟩ := hH1.has
  have hall : ∀ (W : World) (_ : Below w1.heap.size w1 W), Calls Tryz.prog 36 #[ptrV pt] W fun e w' => ∃ v, e = .returned v ∧ OwnE encN 4 60 w' W.heap.size v l ∧ Below W.heap.size W w' := fun W hW => by
    obtain ⟨S, D, t1, t2, -⟩ := (hH1.below hW).has
    exact all_any t2 (by omega) fun x hx => (hfit x hx).1
  have HALL := Lib.hid hall
  have HROW := Lib.hid (fun (W : World) (hW : Below w1.heap.size w1 W) => hr1.below hW (Nat.le_refl _))
  have hr0 : ∀ (W : World) (_ : Below w1.heap.size w1 W), W.cell? ⟨ph, 0, none⟩ = some (.pointer (some ⟨pt, 0, none⟩)) := fun W hW => ((hH1.below hW).reads).1
  have HR0 := Lib.hid hr0
  have HCS := Lib.hid hcs
  have HB1 := Lib.hid (And.intro hb1 hz1)
  have HLL := Lib.hid hl
  unfold ptrV keyV at *
  clear h hrow hX hb1 hcs hH hI hH1 hr1 hfit hrise hat t1 t2 hall hr0 r0 hl
  generalize hln : l.length = ln at *
  go_enter Tryz.func14, Tryz.ntmps14
  go_upto_region 1 with fail
  rw [← hw1]
  clear hw1
  go_region_held_law (fun W' => W'.cell? ⟨w.heap.size, 0, none⟩ = some (.int .u16 (kVol k : Int)) ∧ W'.cell? ⟨w.heap.size, 1, none⟩ = some (.int .u32 (kBlk k : Int)) ∧ W'.cell? ⟨w.heap.size, 2, none⟩ = some (.int .u64 (kSeq k : Int)))
    (first | exact hs1) (fail)
  all_goals
    have hlc := live_count (volL l (kVol k))
    have HCT := Lib.hid (fun (W : World) (a : Option Addr) (c : Nat) (h : RowE encN 4 W a (volL l (kVol k)).length (volL l (kVol k))) => count_ref (c := c) h (by
      have := List.length_filter_le (fun x : En => decide (kVol x.1 = kVol k)) l
      have h2 : (volL l (kVol k)).length ≤ l.length := this
      have := HLL.out
      omega) 0)
    have hvl : (volL l (kVol k)).length ≤ 1000 := by
      have := List.length_filter_le (fun x : En => decide (kVol x.1 = kVol k)) l
      have h2 : (volL l (kVol k)).length ≤ l.length := this
      have := HLL.out
      omega
    have z1 : IntKind.i64.wrap (kVol k : Int) = (kVol k : Int) := IntWalk.i64_in _ (by omega)
    have z2 : IntKind.i64.wrap (kBlk k : Int) = (kBlk k : Int) := IntWalk.i64_in _ (by omega)
    have z3 : IntKind.i64.wrap (((volL l (kVol k)).length : Int) - (cntA (volL l (kVol k)) 0 : Int)) = (liveN (volL l (kVol k)) : Int) := by rw [IntWalk.i64_in _ (by omega)]; omega
    rw [z1, z2]
    clear hs1 z1 z2 hlc
    generalize kVol k = vo at *
    generalize kBlk k = bl at *
    generalize kSeq k = sq at *
    have hbd := (Below.refl w1.heap.size w1).drew
    have HOF0 := Lib.hid (HOF.out _ hbd)
    go_wp2_with fail
    refine HOF0.out.mono ?_
    rintro e w2 ⟨v1, v2, rfl, hT⟩
    obtain ⟨a1, c1, rfl, hr1, -, -⟩ := hT.a.row encN_len
    have hb2 : Below w1.heap.size w1 w2 := hbd.trans hT.below
    have HLV0 := Lib.hid (HLV.out w2 hb2)
    have HR1 := Lib.hid hr1
    have HB2 := Lib.hid hb2
    clear hT hr1 hb2 HOF HOF0 hbd HLV
    generalize hvn : (volL l vo).length = vn at *
    generalize liveN (volL l vo) = lv at *
    go_wp2_with fail
    refine HLV0.out.mono ?_
    rintro e w3 ⟨rfl, hb3⟩
    have HB3 := Lib.hid (HB2.out.trans (hb3.mono HB2.out.size))
    have HR3 := Lib.hid (HR1.out.below hb3 (Nat.le_refl _))
    clear hb3 HLV0 HR1
    go_wp2_with fail
    go_loopw [13, 14] (fun u13 u14 wr => ∃ i : Nat, i ≤ 4 ∧ u14 = .int .i64 i ∧ OwnE encA 1 24 wr w3.heap.size u13 ((List.range i).map fun b => atL l vo b sq) ∧ Below w3.heap.size w3 wr) (fun _ u14 _ => 4 - (intOf u14).toNat)
    case atStart => exact ⟨0, by omega, rfl, World.ownsRow_nil _ _ _ _, Below.refl _ _⟩
    case round =>
      obtain ⟨i, hi, rfl, ho, hb⟩ := hrel
      have hbr := HB3.out.trans (hb.mono HB3.out.size)
      obtain ⟨x0, x1, x2⟩ := HCS.out wr hbr
      by_cases hlt : i < 4
      · have hi1 : (i : Int) < 4 := by omega
        have HA := Lib.hid (HAR.out wr hbr i (by omega))
        have HO := Lib.hid ho
        have HB := Lib.hid hb
        clear ho hb hbr
        go_wp2_with fail
        refine HA.out.mono ?_
        rintro e w5 ⟨rfl, hb5⟩
        have ho5 := HO.out.below (C := wr.heap.size) hb5 (Nat.le_refl _)
        have hb05 := HB.out.trans (hb5.mono HB.out.size)
        obtain ⟨v', w6, hr, ho6, hg⟩ := OwnA.pushAt ho5 (atL l vo i sq) (by simp; omega) hb05.size
        have hb6 := Below.own hb05 ho5 hg (Nat.le_refl _) hb05.size
        have HF := Lib.hid (And.intro ho6 hb6)
        clear ho5 hb05 ho6 hb6 hg hb5
        generalize hat : atL l vo i sq = x at *
        have HATX := Lib.hid hat
        clear hat
        go_wp2_with (at_builtin; refine wpList_append_run rfl _ _ _ rfl hr ?_)
        go_roundw
        case rel =>
          refine ⟨i + 1, by omega, by go_num, ?_, HF.out.2⟩
          rw [List.range_succ, List.map_append]
          show OwnE encA 1 24 w6 w3.heap.size v' (_ ++ [atL l vo i sq])
          rw [HATX.out]
          exact HF.out.1
        case measure => simp [intOf]; omega
      · obtain rfl : i = 4 := by omega
        obtain ⟨sa, sc, rfl, hsr, -, -⟩ := ho.row encA_len
        have HSR := Lib.hid hsr
        have HBR := Lib.hid hbr
        have HRR := Lib.hid (HR3.out.below hb (Nat.le_refl _))
        have HS4 := Lib.hid (fun (W : World) (hW : Below wr.heap.size wr W) => show W.cell? ⟨w.heap.size, 2, none⟩ = some (.int .u64 (sq : Int)) ∧ W.cell? ⟨ph, 0, none⟩ = some (.pointer (some ⟨pt, 0, none⟩)) from ⟨(HCS.out W (HBR.out.trans (hW.mono HBR.out.size))).2.2, HR0.out W (HBR.out.trans (hW.mono HBR.out.size))⟩)
        have hbd := (Below.refl wr.heap.size wr).drew
        have hs4 := HS4.out _ hbd
        have hall : ∀ (W : World) (_ : Below w1.heap.size w1 W), Calls Tryz.prog 36 #[.pointer (some ⟨pt, 0, none⟩)] W fun e w' => ∃ a5 c5, e = .returned (.slice a5 ln c5) ∧ RowE encN 4 w' a5 ln l ∧ Below W.heap.size W w' := fun W hW => (HALL.out W hW).mono fun e w' h => by
          obtain ⟨v, rfl, ho, hb⟩ := h
          obtain ⟨a5, c5, rfl, hr5, -, -⟩ := ho.row encN_len
          rw [hln] at hr5 ⊢
          exact ⟨a5, c5, rfl, hr5, hb⟩
        clear HALL
        have HALL := Lib.hid hall
        have hshs : ∀ (W : World) (_ : Below w1.heap.size w1 W), Calls Tryz.prog 10 #[.pointer (some ⟨ph, 0, none⟩), .int .i64 (vo : Int), .int .u64 (sq : Int), .int .i64 4] W fun e w' => ∃ a9 c9, e = .returned (.slice a9 4 c9) ∧ RowE encA 1 w' a9 4 ((List.range 4).map fun b => atL l vo b sq) ∧ Below W.heap.size W w' := fun W hW => (HSH.out W hW).mono fun e w' h => by
          obtain ⟨v, rfl, ho, hb⟩ := h
          obtain ⟨a9, c9, rfl, hr9, -, -⟩ := ho.row encA_len
          rw [List.length_map, List.length_range] at hr9 ⊢
          exact ⟨a9, c9, rfl, hr9, hb⟩
        clear HSH hall
        have HSH := Lib.hid hshs
        clear hshs
        have hsl : ((List.range 4).map fun b => atL l vo b sq).length = 4 := by simp
        rw [hsl] at HSR
        rw [hsl]
        clear hsl
        generalize ((List.range 4).map fun b => atL l vo b sq) = rs at *
        clear hln hvn
        clear ho hb hbr hsr x0 x1 x2
        go_wp2_with fail
        go_region_held_law (fun W' => W'.cell? ⟨w.heap.size, 2, none⟩ = some (.int .u64 (sq : Int)) ∧ W'.cell? ⟨ph, 0, none⟩ = some (.pointer (some ⟨pt, 0, none⟩)))
          (first | exact hs4 | exact hHeld | exact HS4.out _ hkF | exact HS4.out _ hkE | exact HS4.out _ hkD | exact HS4.out _ hkC | exact HS4.out _ hkB | exact HS4.out _ hkA)
          (first
            | (go_at_call 36; refine (HALL.out _ (HBR.out.trans (hbd.mono HBR.out.size))).mono ?_; rintro e w5 ⟨a5, c5, rfl, hr5, hb5⟩; have hkA := hbd.trans hb5)
            | (go_at_call 25; refine (equalE_same hr5 (HROW.out _ (HBR.out.trans (hkA.mono HBR.out.size))) (by have := HLL.out; omega)).mono ?_; rintro e w6 ⟨rfl, hb6⟩; have hkB := hkA.trans (hb6.mono hkA.size))
            | (go_at_call 9; refine (HAT.out _ (HBR.out.trans (hkB.mono HBR.out.size)) bl hBB).mono ?_; rintro e w7 ⟨rfl, hb7⟩; have hkC := hkB.trans (hb7.mono hkB.size))
            | (go_at_call 35; refine (HAR.out _ (HBR.out.trans (hkC.mono HBR.out.size)) bl hBB).mono ?_; rintro e w8 ⟨rfl, hb8⟩; have hkD := hkC.trans (hb8.mono hkC.size))
            | (go_at_call 16; refine (HCT.out _ _ _ (HRR.out.below hkD (Nat.le_refl _))).mono ?_; rintro e w8' ⟨rfl, rfl⟩)
            | (go_at_call 10; refine (HSH.out _ (HBR.out.trans (hkD.mono HBR.out.size))).mono ?_; rintro e w9 ⟨a9, c9, rfl, hr9, hb9⟩; have hkE := hkD.trans (hb9.mono hkD.size))
            | (go_at_call 12; refine (equalA_same hr9 (HSR.out.below hkE (Nat.le_refl _)) (by omega)).mono ?_; rintro e w10 ⟨rfl, hb10⟩; have hkF := hkE.trans (hb10.mono hkE.size)))
        all_goals
          have HF := Lib.hid (show Below w.heap.size w w10 from HB1.out.1.trans ((HBR.out.trans (hkF.mono HBR.out.size)).mono (by have := HB1.out.2; omega)))
          clear hkA hkB hkC hkD hkE hkF hb5 hb6 hb7 hb8 hb9 hb10
          go_wp2_with fail
          go_ret
          exact ⟨rfl, HF.out⟩
end Go.Proofs.YtejhbaeeaejcaaaGreat
/- The walk of the law HistoryPlays. Conditions: those of each theorem. -/
namespace Go.Proofs.YtejhbaeeaejcaaaGreat
open Go.RowKit

theorem LawS.bys {base : Nat} {w0 : World} {ph pt pa n : Nat} {v : Value} {l : List En} {W : World} (h : LawS base w0 ph pt pa n v l W) : ∃ F L D, AllocW W pa F L n D ∧ HInv n l F L ∧ W.cell? ⟨ph, 1, none⟩ = some (ptrV pa) := by
  obtain ⟨E, F, L, hH, hI, -⟩ := h.his
  obtain ⟨-, c1⟩ := hH.reads
  obtain ⟨S, D, h1, h2, h3, h4⟩ := hH.has
  exact ⟨F, L, D, h3, hI, c1⟩

set_option maxRecDepth 100000 in
set_option maxHeartbeats 16000000 in
theorem plays38_any {w : World} {a : Option Addr} {n c : Nat} {l : List Oh} (h : OpsW w a n l) (k : Nat) (hk : k ≤ 5192296858534827628530496329220095) :
    Calls Tryz.prog 4 #[.slice a n c, keyV k] w fun e w' => e = .returned (.bool true) ∧ Below w.heap.size w w' := by
  obtain ⟨w1, hw1⟩ : ∃ w1, w1 = w.alloc (.cells #[.int .u16 (kVol k : Int), .int .u32 (kBlk k : Int), .int .u64 (kSeq k : Int)] 27) := ⟨_, rfl⟩
  have hX : w1.heap[w.heap.size]? = some (.cells #[.int .u16 (kVol k : Int), .int .u32 (kBlk k : Int), .int .u64 (kSeq k : Int)] 27 (0, 0)) := by rw [hw1]; exact heap_alloc_new w _
  have hb1 : Below w.heap.size w w1 := by rw [hw1]; exact (Below.refl _ _).alloc (Nat.le_refl _) _
  have hz1 : w1.heap.size = w.heap.size + 1 := by rw [hw1, World.alloc_size]
  have hcs : ∀ W : World, Below w1.heap.size w1 W → W.cell? ⟨w.heap.size, 0, none⟩ = some (.int .u16 (kVol k : Int)) ∧ W.cell? ⟨w.heap.size, 1, none⟩ = some (.int .u32 (kBlk k : Int)) ∧ W.cell? ⟨w.heap.size, 2, none⟩ = some (.int .u64 (kSeq k : Int)) :=
    fun W hW => by
      have hW := (hW.block _ (by omega)).trans hX
      exact ⟨cell_of_row W _ 0 _ _ _ hW, cell_of_row W _ 1 _ _ _ hW, cell_of_row W _ 2 _ _ _ hW⟩
  obtain ⟨x0, x1, x2⟩ := hcs w1 (Below.refl _ _)
  have HCS := Lib.hid hcs
  have HX := Lib.hid (And.intro hb1 hz1)
  have HF1 := Lib.hid (few38_any (c := c) (h.row.below hb1 (Nat.le_refl _)) fun o ho => (h.ok o ho).2.2.2.2.1)
  have HH := Lib.hid h
  have HBK := Lib.hid hk
  have HTOLD := Lib.hid (fun (base : Nat) (w0 : World) (ph pt pa n : Nat) (v : Value) (l : List En) (w : World) (h : LawS base w0 ph pt pa n v l w) (hl : l.length ≤ 1000) => told_any h hl k hk)
  unfold keyV ptrV at *
  clear h hX hb1 hz1 hcs
  go_enter Tryz.func4, Tryz.ntmps4
  go_upto_region 1 with fail
  rw [← hw1]
  clear hw1
  obtain ⟨skip, hskip⟩ : ∃ skip : Bool, skip = (!fewB l || decide (1073741824 < kBlk k)) := ⟨_, rfl⟩
  have HSKIP := Lib.hid hskip
  clear hskip
  go_cut [19] from 12 to 19 (fun u19 wx => u19 = .bool skip ∧ wx = w1)
  case first =>
    cases hfew : fewB l with
    | false =>
      rw [hfew] at HF1 HSKIP
      simp only [Bool.not_false, Bool.true_or] at HSKIP
      clear hfew
      go_wp2_with fail
      refine HF1.out.mono ?_
      rintro e w' ⟨rfl, rfl⟩
      go_wp2_with fail
      go_meet
      case rel => exact ⟨by rw [HSKIP.out]; try exact congrArg Value.bool (decide_eq_false (by omega)), by first | rfl | trivial⟩
    | true =>
      rw [hfew] at HF1 HSKIP
      simp only [Bool.not_true, Bool.false_or] at HSKIP
      clear hfew
      by_cases hsf : 1073741824 < kBlk k
      · have z0 : (1073741824 : Int) < (kBlk k : Int) := by omega
        simp only [hsf, decide_true] at HSKIP
        clear hsf
        go_wp2_with fail
        refine HF1.out.mono ?_
        rintro e w' ⟨rfl, rfl⟩
        go_wp2_with fail
        go_meet
        case rel => exact ⟨by rw [HSKIP.out]; try exact congrArg Value.bool (decide_eq_false (by omega)), by first | rfl | trivial⟩
      · have z0 : ¬ (1073741824 : Int) < (kBlk k : Int) := by omega
        simp only [hsf, decide_false] at HSKIP
        clear hsf
        go_wp2_with fail
        refine HF1.out.mono ?_
        rintro e w' ⟨rfl, rfl⟩
        go_wp2_with fail
        go_meet
        case rel => exact ⟨by rw [HSKIP.out]; try exact congrArg Value.bool (decide_eq_false (by omega)), by first | rfl | trivial⟩
  case rest =>
    obtain ⟨rfl, rfl⟩ := hcut
    clear x0 x1 x2
    cases hsk : skip with
    | true =>
      clear hsk
      go_wp2_with fail
      go_ret
      exact ⟨rfl, HX.out.1⟩
    | false =>
      rw [hsk] at HSKIP
      have hcond := HSKIP.out.symm
      simp only [Bool.or_eq_false_iff, Bool.not_eq_false'] at hcond
      have hfew' : l.length ≤ 60 ∧ ∀ x ∈ l, goodO x = true := by
        have hfew := hcond.1
        unfold fewB at hfew
        simp only [Bool.and_eq_true, decide_eq_true_eq] at hfew
        exact ⟨hfew.1, fun x hx => List.all_eq_true.1 hfew.2 x hx⟩
      have HFEW := Lib.hid hfew'
      clear hfew' hcond hsk HSKIP HF1
      have hlen : l.length = n := HH.out.row.1
      have HN := Lib.hid (new38_any wc)
      have HLEN := Lib.hid hlen
      unfold ptrV at HN
      clear hlen
      go_wp2_with fail
      refine HN.out.mono ?_
      clear HN
      rintro e wN ⟨ph, pt, pa, E, rfl, hW, hE, hbN⟩
      have HS0 := Lib.hid (show LawS wc.heap.size wc ph pt pa 60 (.slice none 0 0) [] wN from ⟨⟨E, upto 60, [], hW, HInv.empty 60 _ (fun x => mem_upto), hE, (fun g hg => by cases hg)⟩, (fun x hx => by cases hx), World.ownsRow_nil _ _ _ _, hbN, hbN.size⟩)
      clear hW hE hbN
      go_wp2_with fail
      go_loopw [7, 8] (fun u7 u8 wr => ∃ (i : Nat) (l' : List En), i ≤ n ∧ u8 = .int .i64 i ∧ LawS wc.heap.size wc ph pt pa 60 u7 l' wr ∧ l'.length ≤ i) (fun _ u8 _ => n - (intOf u8).toNat)
      case atStart => exact ⟨0, [], by omega, rfl, HS0.out, Nat.le_refl _⟩
      case round =>
        obtain ⟨i, l', hi, rfl, hL, hli⟩ := hrel
        have HL := Lib.hid hL
        clear hL
        have h60 : n ≤ 60 := by have := HFEW.out.1; have := HLEN.out; omega
        by_cases hlt : i < n
        · have hi1 : (i : Int) < (n : Int) := by omega
          have hi0 : (0 : Int) ≤ (i : Int) := by omega
          obtain ⟨x, hx⟩ : ∃ x, l[i]? = some x := ⟨_, List.getElem?_eq_getElem (by have := HLEN.out; omega)⟩
          have hm := List.mem_of_getElem? hx
          obtain ⟨k1, k2, k3, k4, k5, k6⟩ := HH.out.ok x hm
          have hrowW : ∀ W : World, Below wc.heap.size wc W → RowE encO 7 W a n l := fun W hW => (HH.out.row.below HX.out.1 (Nat.le_refl _)).below hW (by have := HX.out.1.size; omega)
          obtain ⟨g, of, rfl, hc⟩ := (hrowW wr HL.out.below).2 i x hx
          have hcW : ∀ W : World, Below wc.heap.size wc W → W.cell? ⟨g, of + i * 7 + 2, none⟩ = some (.int .u16 (kVol x.key : Int)) ∧ W.cell? ⟨g, of + i * 7 + 2 + 1, none⟩ = some (.int .u32 (kBlk x.key : Int)) ∧ W.cell? ⟨g, of + i * 7 + 2 + 2, none⟩ = some (.int .u64 (kSeq x.key : Int)) := fun W hW => by
            obtain ⟨g', of', e, hc⟩ := (hrowW W hW).2 i x hx
            simp only [Option.some.injEq, Addr.mk.injEq, and_true] at e
            obtain ⟨rfl, rfl⟩ := e
            exact ⟨hc 2 _ rfl, hc 3 _ rfl, hc 4 _ rfl⟩
          have c0 := hc 0 _ rfl
          have c1 := hc 1 _ rfl
          have c2 := hc 2 _ rfl
          have c3 := hc 3 _ rfl
          have c4 := hc 4 _ rfl
          have c5 := hc 5 _ rfl
          have c6 := hc 6 _ rfl
          simp only [Nat.add_zero] at c0
          have HST := Lib.hid (step38_any HL.out (by omega) (by omega) x (HFEW.out.2 x hm) k2 k3 k4 (k1.below (HX.out.1.trans (HL.out.below.mono HX.out.1.size)) (Nat.le_refl _)))
          have HCW := Lib.hid hcW
          have HT2 := Lib.hid (fun (v : Value) (l : List En) (w : World) (h : LawS wc.heap.size wc ph pt pa 60 v l w) (hl : l.length ≤ 1000) => told_any h hl x.key k4)
          unfold ptrV opV at HST
          unfold ptrV keyV at HT2
          clear hx hm k1 k2 k3 k4 k5 k6 hc hrowW hcW
          go_upto_region 12 with fail
          refine HST.out.mono ?_
          clear HST c0 c1 c2 c3 c4 c5 c6
          rintro e w5 ⟨v', l2, rfl, hL5, hl5⟩
          have HL5 := Lib.hid hL5
          clear hL5
          go_upto_region 12 with fail
          obtain ⟨y0, y1, y2⟩ := HCS.out w5 HL5.out.below
          have HTA := Lib.hid (HTOLD.out _ _ _ _ _ _ _ _ _ HL5.out (by omega))
          go_wp2_with fail
          refine HTA.out.mono ?_
          clear HTA y0 y1 y2
          rintro e w6 ⟨rfl, hb6⟩
          have HL6 := Lib.hid (HL5.out.ro hb6)
          clear hb6
          obtain ⟨y0, y1, y2⟩ := HCW.out w6 HL6.out.below
          have HTB := Lib.hid (HT2.out _ _ _ HL6.out (by omega))
          go_wp2_with fail
          refine HTB.out.mono ?_
          clear HTB y0 y1 y2
          rintro e w7 ⟨rfl, hb7⟩
          have HL7 := Lib.hid (HL6.out.ro hb7)
          clear hb7
          go_wp2_with fail
          go_roundw
          case rel => exact ⟨i + 1, l2, by omega, by go_num, HL7.out, by omega⟩
          case measure => simp [intOf]; omega
        · obtain rfl : n = i := by omega
          clear hi hlt
          have hll : l'.length ≤ 60 := by omega
          obtain ⟨F, L, D, hA, hI, c1⟩ := HL.out.bys
          obtain ⟨ra, rc, rfl, hrow, -, -⟩ := HL.out.row.row encN_len
          have HAC := Lib.hid (fun (b : Nat) (hb : b < 4294967296) => allocCount_any hA b hb)
          have HRC := Lib.hid (fun (b : Nat) => count_ref (c := rc) hrow (by omega) b)
          have HCE := Lib.hid hI.cnt
          have HSO := Lib.hid (sound_any hA hI (by omega))
          unfold ptrV at c1 HAC HSO
          clear hA hI hrow hli
          generalize l'.length = ll at *
          go_wp2_with fail
          go_loopw [11] (fun u11 w' => ∃ b : Nat, 1 ≤ b ∧ b ≤ 61 ∧ u11 = .int .u32 b ∧ w' = wr) (fun u11 _ => 61 - (intOf u11).toNat)
          case atStart => exact ⟨1, by omega, by omega, rfl, rfl⟩
          case round =>
            obtain ⟨b, hb0, hb1, rfl, rfl⟩ := hrel
            by_cases hlt : b < 61
            · have hi1 : (b : Int) ≤ 60 := by omega
              have H1 := Lib.hid (HAC.out b (by omega))
              have H2 := Lib.hid (HRC.out b)
              rw [HCE.out b (by omega)] at H1
              generalize cntA l' b = cb at *
              go_wp2_with fail
              refine H1.out.mono ?_
              clear H1
              rintro e w5 ⟨rfl, rfl⟩
              go_wp2_with fail
              refine H2.out.mono ?_
              clear H2
              rintro e w5 ⟨rfl, rfl⟩
              go_wp2_with fail
              go_roundw
              case rel => exact ⟨b + 1, by omega, by omega, by go_num, by first | rfl | trivial⟩
              case measure => simp [intOf]; omega
            · obtain rfl : b = 61 := by omega
              go_wp2_with fail
              refine HSO.out.mono ?_
              rintro e w5 ⟨rfl, hb5⟩
              have HAL := Lib.hid (alive38_any w5)
              have HB5 := Lib.hid (HX.out.1.trans ((HL.out.ro hb5).below.mono HX.out.1.size))
              clear hb5
              go_wp2_with fail
              refine HAL.out.mono ?_
              rintro e w11 ⟨rfl, hb11⟩
              have HF := Lib.hid (HB5.out.trans (hb11.mono HB5.out.size))
              clear hb11
              go_wp2_with fail
              go_ret
              exact ⟨rfl, HF.out⟩
end Go.Proofs.YtejhbaeeaejcaaaGreat
/- A key that came in, opened. Conditions: those of each theorem. -/
namespace Go.Proofs.YtejhbaeeaejcaaaGreat
open Go.RowKit Go.WideShapes Go.ChangeShapes Go.Joins Go.Deep

set_option maxRecDepth 100000 in
theorem key38_of_trod {H : Type} {enc : TypeId × Value → H} {w : World} {base : Nat} {r : Reach} {v : Value} {d : DataW H} {p : List MemPlace} (hv : Value.okWide Tryz.prog w r base 27 v) (h : DataW.Trod enc Tryz.prog w 0 (fun _ => true) true 27 v d p) :
    ∃ k : Nat, v = keyV k ∧ k ≤ 5192296858534827628530496329220095 := by
  obtain ⟨g0, g1, g2, hs27, p0, p1, p2, u0, u1, u2⟩ := under27
  obtain ⟨cs, rfl, hcs⟩ := okWide_struct hs27 hv
  obtain ⟨fuel, hf⟩ := h
  rw [cellsKey] at hcs
  have hcl : cs.toList.length = 3 := by simpa [Value.cells] using hcs
  have hf : DataW.trod enc Tryz.prog w 0 (fun _ => true) true fuel 27 cs.toList = some (d, p) := by simpa [Value.cells] using hf
  obtain ⟨zs, n2, hn2, hz, hzl, hzsz, hzf⟩ := DataW.trod_struct hs27 hf
  have r0 := hzf 0 g0 rfl
  have r1 := hzf 1 g1 rfl
  have r2 := hzf 2 g2 rfl
  rw [p0, u0, cellsU16] at r0
  rw [p1, u1, cellsU32] at r1
  rw [p2, u2, cellsU64] at r2
  have hz0 : zs[0]? = some (zs[0]'(by rw [hzsz]; simp)) := List.getElem?_eq_getElem _
  have hz1 : zs[1]? = some (zs[1]'(by rw [hzsz]; simp)) := List.getElem?_eq_getElem _
  have hz2 : zs[2]? = some (zs[2]'(by rw [hzsz]; simp)) := List.getElem?_eq_getElem _
  rw [hz0] at r0
  rw [hz1] at r1
  rw [hz2] at r2
  obtain ⟨cs⟩ := cs
  match cs, hcl with
  | [c0, c1, c2], _ =>
    simp only [List.drop_zero, List.drop_succ_cons, List.take_succ_cons, List.take_zero] at r0 r1 r2
    obtain ⟨kv, d0, -, vf0⟩ := DataW.trod_int Tryz.underlying23 r0
    obtain ⟨kb, d1, -, vf1⟩ := DataW.trod_int Tryz.underlying24 r1
    obtain ⟨ks, d2, -, vf2⟩ := DataW.trod_int Tryz.underlying25 r2
    obtain ⟨kv, rfl, hkv⟩ := wf_u16 vf0
    obtain ⟨kb, rfl, hkb⟩ := wf_u32 vf1
    obtain ⟨ks, rfl, hks⟩ := wf_u64 vf2
    simp only [List.cons.injEq, and_true] at d0 d1 d2
    subst d0 d1 d2
    refine ⟨keyN kv kb ks, ?_, by unfold keyN; omega⟩
    unfold keyV
    rw [keyN_vol hkb hks, keyN_blk hkb hks, keyN_seq hks]
end Go.Proofs.YtejhbaeeaejcaaaGreat
