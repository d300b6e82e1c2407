/- Plain: operations as a text are read as they were. No condition but those of each theorem. -/
import Derived.Test.YtljbehndnledpaaText
import Derived.Test.YtljbehndnledpaaScriptReadsLaw
namespace Go.Proofs.Ytljbehndnledpaa
open Go.RowKit

/-- No byte below a digit. -/
def high (w : List UInt8) : Prop := ∀ c ∈ w, 48 ≤ c.toNat
theorem high_dec (n : Nat) : high (dec n) := fun c hc => by
  have := List.all_eq_true.1 (digs_dec n) c hc
  simp only [isDig, decide_eq_true_eq] at this
  exact this.1
theorem high_hex (l : List UInt8) : high (hexL l) := fun c hc => by
  unfold hexL at hc
  obtain ⟨x, -, hx⟩ := List.mem_flatMap.1 hc
  have hx256 := UInt8.toNat_lt x
  simp at hx
  rcases hx with rfl | rfl
  · rw [hexD_nat _ (by omega)]; split <;> omega
  · rw [hexD_nat _ (by omega)]; split <;> omega
theorem high_word (k : Int) : high (wordL k) := by
  by_cases hk : 1 ≤ k ∧ k ≤ 19
  · have key : ((wordL k).all fun c => decide (48 ≤ c.toNat)) = true := by
      rcases kinds k hk.1 hk.2 with rfl | rfl | rfl | rfl | rfl | rfl | rfl | rfl | rfl | rfl | rfl | rfl | rfl | rfl | rfl | rfl | rfl | rfl | rfl <;> decide
    intro c hc
    simpa using List.all_eq_true.1 key c hc
  · rw [word_out k hk]; intro c hc; simp at hc
theorem high_words (o : PO) : ∀ y ∈ o.words, high y := by
  intro y hy
  unfold PO.words at hy
  rcases List.mem_cons.1 hy with rfl | hy
  · exact high_word o.k
  · obtain ⟨c, hc, hy⟩ := List.mem_flatMap.1 hy
    rcases looks_letters _ c hc with rfl | rfl | rfl | rfl | rfl | rfl | rfl
    · rw [part_v] at hy; rw [List.mem_singleton.1 hy]; exact high_dec _
    · rw [part_i] at hy; rw [List.mem_singleton.1 hy]; exact high_dec _
    · rw [part_b] at hy; rw [List.mem_singleton.1 hy]; exact high_dec _
    · rw [part_n] at hy; rw [List.mem_singleton.1 hy]; exact high_dec _
    · rw [part_p] at hy; rw [List.mem_singleton.1 hy]; exact high_dec _
    · rw [part_d] at hy; rw [List.mem_singleton.1 hy]; exact high_hex _
    · rw [part_m] at hy
      obtain ⟨x, -, rfl⟩ := List.mem_map.1 hy
      exact high_dec _
theorem line_no10 (o : PO) : ∀ c ∈ o.line, c ≠ 10 := by
  intro c hc
  have key : ∀ c ∈ o.line, 48 ≤ c.toNat ∨ c = 32 := by
    intro c hc
    unfold PO.line at hc
    split at hc
    · have hw := high_words o
      unfold PO.words joinL at hc
      unfold PO.words at hw
      rcases List.mem_append.1 hc with hc | hc
      · exact .inl (hw _ (List.mem_cons_self ..) c hc)
      · unfold sp at hc
        obtain ⟨y, hy, hc⟩ := List.mem_flatMap.1 hc
        rcases List.mem_cons.1 hc with rfl | hc
        · exact .inr rfl
        · exact .inl (hw y (List.mem_cons_of_mem _ hy) c hc)
    · simp at hc
  rcases key c hc with h | rfl
  · rintro rfl; simp at h
  · decide

theorem fwd_lines : ∀ rs : List (List UInt8), (∀ y ∈ rs, ∀ c ∈ y, c ≠ 10) → fwd 10 (rs.flatMap fun y => y ++ [10]) = (rs, []) := by
  intro rs
  refine snoc_ind (P := fun rs => (∀ y ∈ rs, ∀ c ∈ y, c ≠ 10) → fwd 10 (rs.flatMap fun y => y ++ [10]) = (rs, [])) (by simp [fwd]) (fun rs y ih h => ?_) rs
  have ih := ih fun z hz => h z (by simp [hz])
  have e : ((rs ++ [y]).flatMap fun y => y ++ [10]) = ((rs.flatMap fun y => y ++ [10]) ++ y) ++ [10] := by simp [List.flatMap_append]
  rw [e, fwd_snoc, fwd_app, ih, fold_word 10 y _ (h y (by simp))]
  unfold pstep
  rw [if_pos rfl]
  simp
theorem linesL_text (rs : List (List UInt8)) (h : ∀ y ∈ rs, ∀ c ∈ y, c ≠ 10) : linesL (rs.flatMap fun y => y ++ [10]) = rs := by
  unfold linesL
  rw [fwd_lines rs h, if_pos rfl]

/-- Those operations that may be. -/
def rights (l : List PO) : List PO := l.filter fun o => o.right
theorem textL_rights : ∀ l : List PO, (∀ o ∈ l, 0 ≤ o.pt ∧ o.pt < 18446744073709551616) → textL l = ((rights l).map PO.line).flatMap fun y => y ++ [10]
  | [], _ => rfl
  | o :: l, h => by
    have ih := textL_rights l fun q hq => h q (List.mem_cons_of_mem _ hq)
    obtain ⟨hp0, hp1⟩ := h o (List.mem_cons_self ..)
    have e : textL (o :: l) = (if o.line = [] then [] else o.line ++ [10]) ++ textL l := by simp [textL]
    rw [e, ih]
    cases hr : o.right with
    | false =>
      rw [line_none o hr, if_pos rfl]
      have : rights (o :: l) = rights l := by unfold rights; rw [List.filter_cons_of_neg (by rw [hr]; simp)]
      rw [this]; rfl
    | true =>
      obtain ⟨-, hne⟩ := readO_line o hr hp0 hp1
      rw [if_neg hne]
      have : rights (o :: l) = o :: rights l := by unfold rights; rw [List.filter_cons_of_pos hr]
      rw [this]; simp
theorem skip_line (o : PO) (h : o.right = true) : skipL (wordsL o.line) = false := by
  have hl : o.line = joinL o.words := by unfold PO.line; rw [h]; rfl
  rw [hl, wordsL_join _ (wordy_words o h)]
  have h1 := high_word o.k
  obtain ⟨hk, -⟩ := PO.right_all h
  have h2 := (wordy_word o.k hk.1 hk.2).1
  unfold PO.words
  show ((wordL o.k).head? == some 35) = false
  cases hw : wordL o.k with
  | nil => exact absurd hw h2
  | cons c r =>
    have := h1 c (by rw [hw]; exact List.mem_cons_self ..)
    have hc : c ≠ 35 := by rintro rfl; simp at this
    simp [hc]
theorem parse_lines : ∀ (rs : List PO) (i : Nat) (acc : List PO), (∀ o ∈ rs, o.right = true ∧ 0 ≤ o.pt ∧ o.pt < 18446744073709551616) → parseFrom i (rs.map PO.line) acc = (acc ++ rs.map PO.plain, 0, 0)
  | [], i, acc, _ => by simp [parseFrom]
  | o :: rs, i, acc, h => by
    obtain ⟨hr, hp0, hp1⟩ := h o (List.mem_cons_self ..)
    rw [List.map_cons, parseFrom, if_neg (by rw [skip_line o hr]; simp), (readO_line o hr hp0 hp1).1]
    show parseFrom (i + 1) (rs.map PO.line) (acc ++ [o.plain]) = _
    rw [parse_lines rs (i + 1) _ fun q hq => h q (List.mem_cons_of_mem _ hq)]
    simp

theorem sp_part (o : PO) (h : o.right = true) (hp0 : 0 ≤ o.pt) (hp1 : o.pt < 18446744073709551616) : ∀ c ∈ looksL o.k, (sp (o.part c)).length ≤ (if c = 100 then 129 else if c = 109 then 168 else 21) := by
  obtain ⟨hk, hall⟩ := PO.right_all h
  have hnum : ∀ z : Int, 0 ≤ z → z < 18446744073709551616 → (sp [numW z]).length ≤ 21 := fun z h0 h1 => by
    have := dec_len z.toNat (by omega)
    rw [sp_one, List.length_cons]
    unfold numW; omega
  intro c hc
  have hm := hall c hc
  rcases looks_letters _ c hc with rfl | rfl | rfl | rfl | rfl | rfl | rfl
  · rw [part_v, if_neg (by decide), if_neg (by decide)]; simp [mayO, okId] at hm; exact hnum _ (by omega) (by omega)
  · rw [part_i, if_neg (by decide), if_neg (by decide)]; simp [mayO, okId] at hm; exact hnum _ (by omega) (by omega)
  · rw [part_b, if_neg (by decide), if_neg (by decide)]; simp [mayO, okPlace] at hm; exact hnum _ (by omega) (by omega)
  · rw [part_n, if_neg (by decide), if_neg (by decide)]; simp [mayO, okCount] at hm; exact hnum _ (by omega) (by omega)
  · rw [part_p, if_neg (by decide), if_neg (by decide)]; exact hnum _ hp0 hp1
  · rw [part_d, if_pos rfl, sp_one, List.length_cons, hexL_len]; simp [mayO, okData] at hm; omega
  · rw [part_m, if_neg (by decide), if_pos rfl]; simp [mayO, okMem] at hm
    have hg := rises_range o.m 0 (Int.le_refl 0) hm.1
    have key : ∀ l : List Int, (∀ x ∈ l, 1 ≤ x ∧ x ≤ 65535) → (sp (l.map numW)).length ≤ 21 * l.length := by
      intro l
      induction l with
      | nil => intro _; simp [sp]
      | cons x l ih =>
        intro hx
        have h1 := ih fun y hy => hx y (List.mem_cons_of_mem _ hy)
        have h2 := hx x (List.mem_cons_self ..)
        have h3 := hnum x (by omega) (by omega)
        have e : sp ((x :: l).map numW) = sp [numW x] ++ sp (l.map numW) := by rw [← sp_app]; rfl
        rw [e, List.length_append, List.length_cons]; omega
    have := key o.m hg
    omega
theorem line_small (o : PO) (hp0 : 0 ≤ o.pt) (hp1 : o.pt < 18446744073709551616) : o.line.length ≤ 180 := by
  cases h : o.right with
  | false => rw [line_none o h]; simp
  | true =>
    have hl : o.line = wordL o.k ++ sp ((looksL o.k).flatMap o.part) := by unfold PO.line; rw [h]; rfl
    have hw := word_len o.k
    have hs := sp_part o h hp0 hp1
    obtain ⟨hk, -⟩ := PO.right_all h
    rw [hl, List.length_append]
    clear hl h
    generalize o.part = F at *
    generalize o.k = k at *
    rcases kinds k hk.1 hk.2 with rfl | rfl | rfl | rfl | rfl | rfl | rfl | rfl | rfl | rfl | rfl | rfl | rfl | rfl | rfl | rfl | rfl | rfl | rfl <;>
      simp [looksL, sp_app] at hs hw ⊢ <;> simp [sp] at * <;> omega
theorem text_small : ∀ l : List PO, (∀ o ∈ l, 0 ≤ o.pt ∧ o.pt < 18446744073709551616) → (textL l).length ≤ 181 * l.length
  | [], _ => by simp [textL]
  | o :: l, h => by
    have ih := text_small l fun q hq => h q (List.mem_cons_of_mem _ hq)
    obtain ⟨hp0, hp1⟩ := h o (List.mem_cons_self ..)
    have h1 := line_small o hp0 hp1
    have e : textL (o :: l) = (if o.line = [] then [] else o.line ++ [10]) ++ textL l := by simp [textL]
    rw [e, List.length_append, List.length_cons]
    split <;> simp <;> omega
/-- What is written is read as it was. -/
theorem parse_text (l : List PO) (hl : l.length ≤ 40) (h : ∀ o ∈ l, 0 ≤ o.pt ∧ o.pt < 18446744073709551616) : parseO (textL l) = ((rights l).map PO.plain, 0, 0) := by
  have h1 := text_small l h
  unfold parseO
  rw [if_neg (by omega), textL_rights l h, linesL_text _ (fun y hy => by
    obtain ⟨o, -, rfl⟩ := List.mem_map.1 hy
    exact line_no10 o), parse_lines _ 0 [] (fun o ho => by
    unfold rights at ho
    obtain ⟨h2, h3⟩ := List.mem_filter.1 ho
    exact ⟨h3, h o h2⟩)]
  simp
end Go.Proofs.Ytljbehndnledpaa
