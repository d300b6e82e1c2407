/- The walk of disk.Disk.Write at a sector that there is. Conditions: those of the theorem. -/
import Derived.Test.YtljbehndnledpaaDiskNew
import Derived.Deep.RegionLaw
namespace Go.Proofs.Ytljbehndnledpaa
open Go.RowKit

theorem info179 : (Try.prog.info? 179).map (fun i => (i.zero, i.size, i.bytes)) = some (some (.agg #[.int .i64 0, .slice none 0 0]), 2, 32) := by kernel_rfl

/-- One more that has been written: appended. -/
theorem late_append {base : Nat} {w : World} {lv : Value} {late : List (Nat × List UInt8)} (h : Late base w lv late) (hn : late.length ≤ 1000000) (hbase : base ≤ w.heap.size) (i : Nat) (data : List UInt8) (g c : Nat) (hg : At w g 5) (hc : 128 ≤ c) (hb : Bs w (some ⟨g, 0, none⟩) 128 data) :
    ∃ v' w', (Builtin.append_ #[175, 175] 175 #[lv, .slice (some ⟨w.heap.size, 0, none⟩) 1 1]).run Try.prog (w.alloc (.cells #[.int .i64 (i : Int), .slice (some ⟨g, 0, none⟩) 128 c] 179)) = .ok v' w' ∧ Late base w' v' (late ++ [(i, data)]) ∧ w.grownBy w' lv.ownBlock ∧ (∀ k, lv.ownBlock = some k → At w k 179) := by
  obtain ⟨cs, ho, he⟩ := h
  obtain ⟨i0, hi, hz0, hz1, hz2⟩ := info_parts info179
  obtain ⟨v', w', hap, ho', hgr, _⟩ := app_new (P := Try.prog) Try.underlying175 hi hz0 hz1 hz2 rfl (by decide) ho 1 [.int .i64 (i : Int), .slice (some ⟨g, 0, none⟩) 128 c] rfl (by simp [Value.oneCell']) (by unfold maxLen; omega) (by omega) hbase
  have hlen : cs.length = late.length * 2 := ho.1
  have hblk : ∀ k, lv.ownBlock = some k → At w k 179 := by
    intro k hk
    rcases ho.2 with ⟨rfl, _⟩ | ⟨g, cap, cur, rfl, _, hh, _⟩
    · cases hk
    · cases hk
      exact ⟨cur, hh⟩
  have hheap : ∀ b, At w b 5 → w'.heap[b]? = w.heap[b]? := by
    intro b hb
    refine hgr.block b hb.lt ?_
    intro e
    exact (hb.ne (hblk b e.symm) (by decide)) rfl
  refine ⟨v', w', hap, ⟨cs ++ [.int .i64 (i : Int), .slice (some ⟨g, 0, none⟩) 128 c], by simpa using ho', fun j x hx => ?_⟩, hgr, hblk⟩
  by_cases hj : j < late.length
  · rw [List.getElem?_append_left hj] at hx
    obtain ⟨g', c', h1, h2, h3, h4, h5⟩ := he j x hx
    exact ⟨g', c', h1.heap (hheap g' h1), h2, by rw [List.getElem?_append_left (by omega)]; exact h3, by rw [List.getElem?_append_left (by omega)]; exact h4, Bs.heap h5 (hheap g' h1)⟩
  · have hje : j = late.length := by
      have := (List.getElem?_eq_some_iff.1 hx).1
      simp at this
      omega
    subst hje
    rw [List.getElem?_append_right (by omega)] at hx
    simp at hx
    subst hx
    exact ⟨g, c, hg.heap (hheap g hg), hc, by rw [List.getElem?_append_right (by omega), show 2 * late.length - cs.length = 0 by omega]; rfl, by rw [List.getElem?_append_right (by omega), show 2 * late.length + 1 - cs.length = 1 by omega]; rfl, Bs.heap hb (hheap g hg)⟩
theorem row_shape {w : World} {base n size : Nat} {e : TypeId} {v : Value} {c : List Value} (h : w.ownsRow base e size v n c) : ∃ a cap, v = .slice a n cap := by
  rcases h.2 with ⟨rfl, h2⟩ | ⟨g, cap, cur, rfl, _⟩
  · subst h2; exact ⟨_, _, rfl⟩
  · exact ⟨_, _, rfl⟩

theorem Disk.stored {base : Nat} {w w' : World} {p s : Nat} {lv v' : Value} {n : Nat} {late late' : List (Nat × List UInt8)} (h : Disk base w p s lv n late) (hg : w.grownBy w' lv.ownBlock) (hk : ∀ k, lv.ownBlock = some k → At w k 179) (hl : Late base w' v' late') :
    Disk base (w'.setCell ⟨p, 1, none⟩ v') p s v' n late' := by
  have hheap : ∀ b t, At w b t → t ≠ 179 → w'.heap[b]? = w.heap[b]? := by
    intro b t hb ht
    refine hg.block b hb.lt ?_
    intro e
    exact (hb.ne (hk b e.symm) ht) rfl
  have hp := hheap p 177 h.pt (by decide)
  have hs := hheap s 37 h.st (by decide)
  have hpt := h.pt.heap hp
  have hst := h.st.heap hs
  have hsp : s ≠ p := hst.ne hpt (by decide)
  have hpc : ∀ j, j ≠ 1 → (w'.setCell ⟨p, 1, none⟩ v').cell? ⟨p, j, none⟩ = w.cell? ⟨p, j, none⟩ := fun j hj => by
    have hne : (⟨p, 1, none⟩ : Addr) ≠ ⟨p, j, none⟩ := by
      intro e
      cases e
      exact hj rfl
    rw [World.cell?_setCell_other _ _ _ _ hne, cell_heap hp]
  have h5 : ∀ b, At w' b 5 → (w'.setCell ⟨p, 1, none⟩ v').heap[b]? = w'.heap[b]? := fun b hb => Below.heap_setCell _ _ _ _ (hb.ne hpt (by decide))
  refine ⟨h.pb, hpt.set 1 _, by rw [hpc 0 (by omega)]; exact h.c0, World.cell?_setCell_same _ _ _ (by rw [cell_heap hp]; exact h.c1), by rw [hpc 2 (by omega)]; exact h.c2, by rw [hpc 3 (by omega)]; exact h.c3, hst.heap (Below.heap_setCell _ _ _ _ hsp), fun i hi => ?_, ?_⟩
  · obtain ⟨g, h1, h2, h3⟩ := h.sec i hi
    have hg1 := hheap g 5 h1 (by decide)
    have hg2 := h1.heap hg1
    exact ⟨g, hg2.heap (h5 g hg2), by rw [cell_heap (Below.heap_setCell _ _ _ _ hsp), cell_heap hs]; exact h2, Bs.heap (Bs.heap h3 hg1) (h5 g hg2)⟩
  · obtain ⟨cs, ho, he⟩ := hl
    refine ⟨cs, ?_, fun j x hx => ?_⟩
    · refine ⟨ho.1, ?_⟩
      rcases ho.2 with h2 | ⟨g, cap, cur, hv, hbg, hh, hr⟩
      · exact .inl h2
      · have hgp : g ≠ p := At.ne ⟨cur, hh⟩ hpt (by decide)
        exact .inr ⟨g, cap, cur, hv, hbg, by rw [Below.heap_setCell _ _ _ _ hgp]; exact hh, hr⟩
    · obtain ⟨g, c, h1, h2, h3, h4, h6⟩ := he j x hx
      exact ⟨g, c, h1.heap (h5 g h1), h2, h3, h4, Bs.heap h6 (h5 g h1)⟩

set_option maxRecDepth 100000 in
set_option maxHeartbeats 4000000 in
theorem write_any (base : Nat) (w : World) (p s : Nat) (lv : Value) (n : Nat) (late : List (Nat × List UInt8)) (i b o cap : Nat) (data : List UInt8) (hd : Disk base w p s lv n late) (hbase : base ≤ w.heap.size) (hi : i < n) (hl : late.length ≤ 100000) (hb : Bs w (some ⟨b, o, none⟩) 128 data) :
    Calls Try.prog 44 #[.pointer (some ⟨p, 0, none⟩), .int .i64 (i : Int), .slice (some ⟨b, o, none⟩) 128 cap] w fun e w' => e = .returned (.int .i64 0) ∧ (∃ lv', Disk base w' p s lv' n (late ++ [(i, data)])) ∧ Below base w w' ∧ ∀ b, At w b 71 → w'.heap[b]? = w.heap[b]? := by
  have c0 := hd.c0
  have hsp := spend_any p w hd.c2
  have hcl := clone_any b o 128 cap data w.drew (hb.below (Below.refl _ _).drew (Nat.le_refl _)) (by omega)
  have hi0 : (0 : Int) ≤ (i : Int) := by omega
  have hi1 : (i : Int) < (n : Int) := by omega
  have c1 : w.drew.cell? ⟨p, 1, none⟩ = some lv := by simpa using hd.c1
  have HD := Lib.hid hd
  have HCL := Lib.hid hcl
  have HSP := Lib.hid hsp
  have HBL := Lib.hid hb.length
  clear hd hcl hsp hb
  go_enter Try.func44, Try.ntmps44
  go_wp2_with fail
  refine HSP.out.mono ?_
  rintro e w1 ⟨rfl, rfl⟩
  go_wp2_with fail
  go_region_law (first
    | (refine step_call (o := ⟨some 32, _, _, _, _, _⟩) (by kernel_rfl) 108 Try.func108 (by kernel_rfl) rfl _ _ rfl #[.slice (some ⟨b, o, none⟩) 128 cap] (by simp [Act.eval, Act.put]) HCL.out ?_
       rintro e w2 ⟨v2, rfl, ho2, hb2⟩
       refine ⟨v2, rfl, ?_⟩
       have hb3 : Below w.heap.size w w2 := (Below.refl _ _).drew.trans hb2
       rw [HBL.out] at ho2
       obtain ⟨g, c, rfl⟩ := own_some ho2 (by omega)
       obtain ⟨_, _, e6, hbs, _⟩ := own_bs ho2
       cases e6
       obtain ⟨_, _, e7, _, hcc⟩ := own_sl ho2
       cases e7
       have hat : At w2 g 5 := by
         rcases ho2.2 with ⟨h, _⟩ | ⟨g', cap', cur, he, _, hh, _⟩
         · cases h
         · cases he
           exact ⟨cur, hh⟩
       have hD2 := HD.out.below hb3
       obtain ⟨v3, w3, hap, hl3, hg3, hk3⟩ := late_append hD2.row (by omega) (Nat.le_trans hbase hb3.size) i data g c hat hcc hbs
       obtain ⟨a9, c9, rfl⟩ : ∃ a c, v3 = .slice a (late.length + 1) c := by
         obtain ⟨_, ho3, _⟩ := hl3
         simpa using row_shape ho3
       have hfin := hD2.stored hg3 hk3 hl3
       have c12 := hD2.c1
       have c13 : (w2.alloc (.cells #[.int .i64 (i : Int), .slice (some ⟨g, 0, none⟩) 128 c] 179)).cell? ⟨p, 1, none⟩ = some lv := by rw [World.cell?_alloc_lt _ _ _ hD2.pt.lt]; exact c12
       have hpk : w3.heap[p]? = w2.heap[p]? := hg3.block p hD2.pt.lt (fun e => (hD2.pt.ne (hk3 p e.symm) (by decide)) rfl)
       have c14 : w3.cell? ⟨p, 1, none⟩ = some lv := by rw [cell_heap hpk]; exact c12
       have hf4 := (hD2.pt.heap hpk).frozen 1
       have hb4 : Below base w w3 := (hb3.mono hbase).grown hg3 (Nat.le_trans hbase hb3.size) (fun k hk => by
         rcases hD2.row with ⟨cs, ho, _⟩
         exact (ho.lt k hk).1)
       have hb5 := hb4.setCell (p := ⟨p, 1, none⟩) hD2.pb (.slice a9 (late.length + 1) c9)
       have h71 : ∀ b, At w b 71 → (w3.setCell ⟨p, 1, none⟩ (.slice a9 (late.length + 1) c9)).heap[b]? = w.heap[b]? := fun b hb => by
         have hb2 := hb.below hb3
         rw [Below.heap_setCell _ _ _ _ (hb2.ne hD2.pt (by decide)), hg3.block b hb2.lt (fun e => (hb2.ne (hk3 b e.symm) (by decide)) rfl), hb3.block b hb.lt]
       have H71 := Lib.hid h71
       have HF := Lib.hid hfin
       clear ho2 hbs hcc hat hD2 hg3 hk3 hl3 hfin hb3 hpk hb2 h71)
    | (refine step_append_run (o := ⟨some 35, _, _, _, _, _⟩) (by kernel_rfl) _ _ _ rfl hap ?_))
  all_goals
    go_wp2_with fail
    go_ret
    exact ⟨rfl, ⟨_, HF.out⟩, hb5, H71.out⟩
end Go.Proofs.Ytljbehndnledpaa
