/- The walks of yesteryearref13.Looks, yesteryearref29.Word and script.word (tables of strings). Printed by wip/mklooks.py. No condition. -/
import Derived.Test.YtljbehndnledpaaOpMembers
import Derived.Laws.Tables
import Derived.Deep.WholeRow
namespace Go.Proofs.Ytljbehndnledpaa
open Go.RowKit

/-- A kind's word. -/
def wordL (k : Int) : List UInt8 :=
  if k = 1 then [99, 114, 101, 97, 116, 101] else if k = 2 then [100, 101, 108, 101, 116, 101] else if k = 3 then [114, 101, 115, 105, 122, 101] else if k = 4 then [119, 114, 105, 116, 101] else if k = 5 then [116, 114, 105, 109] else if k = 6 then [103, 114, 111, 117, 112] else if k = 7 then [117, 110, 103, 114, 111, 117, 112] else if k = 8 then [98, 111, 111, 107] else if k = 9 then [117, 110, 98, 111, 111, 107] else if k = 10 then [109, 97, 116] else if k = 11 then [109, 97, 116, 116, 105, 109, 101] else if k = 12 then [109, 97, 116, 98, 111, 111, 107] else if k = 13 then [114, 111, 108, 108] else if k = 14 then [114, 101, 116, 97, 105, 110] else if k = 15 then [114, 101, 97, 100] else if k = 16 then [114, 101, 97, 100, 97, 116] else if k = 17 then [102, 108, 117, 115, 104] else if k = 18 then [116, 105, 99, 107] else if k = 19 then [99, 104, 101, 99, 107] else []
def looksV : Array Value := #[.string ⟨#[]⟩, .string ⟨#[110]⟩, .string ⟨#[118]⟩, .string ⟨#[118, 110]⟩, .string ⟨#[118, 98, 100]⟩, .string ⟨#[118, 98, 110]⟩, .string ⟨#[109]⟩, .string ⟨#[105]⟩, .string ⟨#[105]⟩, .string ⟨#[105]⟩, .string ⟨#[118, 112]⟩, .string ⟨#[118, 112]⟩, .string ⟨#[118, 105]⟩, .string ⟨#[118, 112]⟩, .string ⟨#[]⟩, .string ⟨#[118, 98]⟩, .string ⟨#[118, 98, 112]⟩, .string ⟨#[]⟩, .string ⟨#[112]⟩, .string ⟨#[]⟩]
def wordsV : Array Value := #[.string ⟨#[]⟩, .string ⟨#[99, 114, 101, 97, 116, 101]⟩, .string ⟨#[100, 101, 108, 101, 116, 101]⟩, .string ⟨#[114, 101, 115, 105, 122, 101]⟩, .string ⟨#[119, 114, 105, 116, 101]⟩, .string ⟨#[116, 114, 105, 109]⟩, .string ⟨#[103, 114, 111, 117, 112]⟩, .string ⟨#[117, 110, 103, 114, 111, 117, 112]⟩, .string ⟨#[98, 111, 111, 107]⟩, .string ⟨#[117, 110, 98, 111, 111, 107]⟩, .string ⟨#[109, 97, 116]⟩, .string ⟨#[109, 97, 116, 116, 105, 109, 101]⟩, .string ⟨#[109, 97, 116, 98, 111, 111, 107]⟩, .string ⟨#[114, 111, 108, 108]⟩, .string ⟨#[114, 101, 116, 97, 105, 110]⟩, .string ⟨#[114, 101, 97, 100]⟩, .string ⟨#[114, 101, 97, 100, 97, 116]⟩, .string ⟨#[102, 108, 117, 115, 104]⟩, .string ⟨#[116, 105, 99, 107]⟩, .string ⟨#[99, 104, 101, 99, 107]⟩]

theorem looksV_get (N : Nat) (h1 : 1 ≤ N) (h2 : N ≤ 19) : looksV[N]? = some (.string ⟨(looksL N).toArray⟩) := by
  have : N = 1 ∨ N = 2 ∨ N = 3 ∨ N = 4 ∨ N = 5 ∨ N = 6 ∨ N = 7 ∨ N = 8 ∨ N = 9 ∨ N = 10 ∨ N = 11 ∨ N = 12 ∨ N = 13 ∨ N = 14 ∨ N = 15 ∨ N = 16 ∨ N = 17 ∨ N = 18 ∨ N = 19 := by omega
  rcases this with rfl | rfl | rfl | rfl | rfl | rfl | rfl | rfl | rfl | rfl | rfl | rfl | rfl | rfl | rfl | rfl | rfl | rfl | rfl <;> rfl
theorem wordsV_get (N : Nat) (h1 : 1 ≤ N) (h2 : N ≤ 19) : wordsV[N]? = some (.string ⟨(wordL N).toArray⟩) := by
  have : N = 1 ∨ N = 2 ∨ N = 3 ∨ N = 4 ∨ N = 5 ∨ N = 6 ∨ N = 7 ∨ N = 8 ∨ N = 9 ∨ N = 10 ∨ N = 11 ∨ N = 12 ∨ N = 13 ∨ N = 14 ∨ N = 15 ∨ N = 16 ∨ N = 17 ∨ N = 18 ∨ N = 19 := by omega
  rcases this with rfl | rfl | rfl | rfl | rfl | rfl | rfl | rfl | rfl | rfl | rfl | rfl | rfl | rfl | rfl | rfl | rfl | rfl | rfl <;> rfl
theorem looksV_one : looksV.all (·.oneCell') = true := by kernel_rfl
theorem wordsV_one : wordsV.all (·.oneCell') = true := by kernel_rfl
theorem looks_out (k : Int) (h : ¬ (1 ≤ k ∧ k ≤ 19)) : looksL k = [] := by
  unfold looksL
  repeat rw [if_neg (by omega)]
theorem word_out (k : Int) (h : ¬ (1 ≤ k ∧ k ≤ 19)) : wordL k = [] := by
  unfold wordL
  repeat rw [if_neg (by omega)]

theorem wpList_table {ops : Array Oper} {rest : List Oper} {o : Oper} {a : Act} {w : World} {Q : Exit → Act → World → Prop} (hg : o.guard = none) (t : TypeId) (parts : Array (Nat × Operand)) (ho : o.op = .build t parts) (cells : Array Value)
    (hf : Try.prog.built t (parts.map fun (i, x) => (i, a.eval x)).toList = some cells)
    (h : wpList Try.prog ops Q rest (a.put o.dst (.agg cells)) w) : wpList Try.prog ops Q (o :: rest) a w :=
  wpList_build hg t parts ho (by rw [hf]; rfl) (by rw [hf]; exact h)
theorem info247 : (Try.prog.info? 247).map (·.size) = some 20 := by kernel_rfl
theorem wpList_lay {ops : Array Oper} {rest : List Oper} {o : Oper} {a : Act} {w : World} {Q : Exit → Act → World → Prop} (hg : o.guard = none) (x y : Operand) (ho : o.op = .store 247 x y) (old cells : Array Value)
    (hx : a.eval x = .pointer (some ⟨w.heap.size, 0, none⟩)) (hy : a.eval y = .agg cells) (hs : cells.size = 20) (hold : old.size = 20) (h1 : cells.all (·.oneCell') = true)
    (h : wpList Try.prog ops Q rest (a.put o.dst undef) (w.alloc (.cells cells 247))) : wpList Try.prog ops Q (o :: rest) a (w.alloc (.cells old 247)) :=
  wpList_store_row hg 247 x y ho w.heap.size cells hx hy 247 old (heap_alloc_last w _) (by rw [hs]; exact info247) (by rw [hs, hold]) h1 (by rw [World.setRow_alloc_new]; exact h)
theorem table_cell (w : World) (V : Array Value) (N : Nat) : (w.alloc (.cells V 247)).cell? ⟨w.heap.size, N, none⟩ = V[N]? := cell_of_row _ _ N V 247 (0, 0) (heap_alloc_last w _)

set_option maxRecDepth 100000 in
set_option maxHeartbeats 4000000 in
theorem looks_any (k : Int) (w : World) : Calls Try.prog 121 #[.int .i64 k] w fun e w' => e = .returned (.tuple #[.string ⟨(looksL k).toArray⟩, .bool (decide (1 ≤ k) && decide (k ≤ 19))]) ∧ Below w.heap.size w w' := by
  have hb : Below w.heap.size w (w.alloc (.cells looksV 247)) := (Below.refl _ _).alloc (Nat.le_refl _) _
  by_cases hk : 1 ≤ k ∧ k ≤ 19
  · obtain ⟨h1, h2⟩ := hk
    obtain ⟨N, rfl⟩ : ∃ N : Nat, k = N := ⟨k.toNat, by omega⟩
    have hc := (table_cell w looksV N).trans (looksV_get N (by omega) (by omega))
    have hN0 : (0 : Int) ≤ (N : Int) := by omega
    have hN1 : (N : Int) < 20 := by omega
    generalize looksL (N : Int) = s at *
    go_enter Try.func121, Try.ntmps121
    go_wp2_with (first
      | ((with_reducible show wpList _ _ _ ({ dst := _, op := Op.build _ _, type := _, pos := _, after := _, guard := _ } :: _) _ _); refine wpList_table rfl 247 _ rfl looksV (by kernel_rfl) ?_)
      | ((with_reducible show wpList _ _ _ ({ dst := _, op := Op.store _ _ _, type := _, pos := _, after := _, guard := _ } :: _) _ _); refine wpList_lay rfl _ _ rfl _ looksV rfl rfl rfl rfl looksV_one ?_))
    go_ret2
    exact ⟨by first | rfl | simp [h1, h2], hb⟩
  · rw [looks_out k hk]
    have hd : (decide (1 ≤ k) && decide (k ≤ 19)) = false := by
      by_cases h1 : 1 ≤ k
      · have h2 : ¬ k ≤ 19 := fun h => hk ⟨h1, h⟩
        simp [h2]
      · simp [h1]
    go_enter Try.func121, Try.ntmps121
    go_wp2_with (first
      | ((with_reducible show wpList _ _ _ ({ dst := _, op := Op.build _ _, type := _, pos := _, after := _, guard := _ } :: _) _ _); refine wpList_table rfl 247 _ rfl looksV (by kernel_rfl) ?_)
      | ((with_reducible show wpList _ _ _ ({ dst := _, op := Op.store _ _ _, type := _, pos := _, after := _, guard := _ } :: _) _ _); refine wpList_lay rfl _ _ rfl _ looksV rfl rfl rfl rfl looksV_one ?_))
    all_goals
      go_ret2
      exact ⟨by first | rfl | (rw [hd]; rfl), hb⟩

set_option maxRecDepth 100000 in
set_option maxHeartbeats 4000000 in
theorem refWord_any (k : Int) (w : World) : Calls Try.prog 164 #[.int .i64 k] w fun e w' => e = .returned (.string ⟨(wordL k).toArray⟩) ∧ Below w.heap.size w w' := by
  have hb : Below w.heap.size w (w.alloc (.cells wordsV 247)) := (Below.refl _ _).alloc (Nat.le_refl _) _
  by_cases hk : 1 ≤ k ∧ k ≤ 19
  · obtain ⟨h1, h2⟩ := hk
    obtain ⟨N, rfl⟩ : ∃ N : Nat, k = N := ⟨k.toNat, by omega⟩
    have hc := (table_cell w wordsV N).trans (wordsV_get N (by omega) (by omega))
    have hN0 : (0 : Int) ≤ (N : Int) := by omega
    have hN1 : (N : Int) < 20 := by omega
    generalize wordL (N : Int) = s at *
    go_enter Try.func164, Try.ntmps164
    go_wp2_with (first
      | ((with_reducible show wpList _ _ _ ({ dst := _, op := Op.build _ _, type := _, pos := _, after := _, guard := _ } :: _) _ _); refine wpList_table rfl 247 _ rfl wordsV (by kernel_rfl) ?_)
      | ((with_reducible show wpList _ _ _ ({ dst := _, op := Op.store _ _ _, type := _, pos := _, after := _, guard := _ } :: _) _ _); refine wpList_lay rfl _ _ rfl _ wordsV rfl rfl rfl rfl wordsV_one ?_))
    go_ret
    exact ⟨by first | rfl | simp [h1, h2], hb⟩
  · rw [word_out k hk]
    have hd : (decide (1 ≤ k) && decide (k ≤ 19)) = false := by
      by_cases h1 : 1 ≤ k
      · have h2 : ¬ k ≤ 19 := fun h => hk ⟨h1, h⟩
        simp [h2]
      · simp [h1]
    go_enter Try.func164, Try.ntmps164
    go_wp2_with (first
      | ((with_reducible show wpList _ _ _ ({ dst := _, op := Op.build _ _, type := _, pos := _, after := _, guard := _ } :: _) _ _); refine wpList_table rfl 247 _ rfl wordsV (by kernel_rfl) ?_)
      | ((with_reducible show wpList _ _ _ ({ dst := _, op := Op.store _ _ _, type := _, pos := _, after := _, guard := _ } :: _) _ _); refine wpList_lay rfl _ _ rfl _ wordsV rfl rfl rfl rfl wordsV_one ?_))
    all_goals
      go_ret
      exact ⟨by first | rfl | (rw [hd]; rfl), hb⟩

set_option maxRecDepth 100000 in
set_option maxHeartbeats 4000000 in
theorem word_any (k : Int) (w : World) : Calls Try.prog 116 #[.int .i64 k] w fun e w' => e = .returned (.string ⟨(wordL k).toArray⟩) ∧ Below w.heap.size w w' := by
  have hb : Below w.heap.size w (w.alloc (.cells wordsV 247)) := (Below.refl _ _).alloc (Nat.le_refl _) _
  by_cases hk : 1 ≤ k ∧ k ≤ 19
  · obtain ⟨h1, h2⟩ := hk
    obtain ⟨N, rfl⟩ : ∃ N : Nat, k = N := ⟨k.toNat, by omega⟩
    have hc := (table_cell w wordsV N).trans (wordsV_get N (by omega) (by omega))
    have hN0 : (0 : Int) ≤ (N : Int) := by omega
    have hN1 : (N : Int) < 20 := by omega
    generalize wordL (N : Int) = s at *
    go_enter Try.func116, Try.ntmps116
    go_wp2_with (first
      | ((with_reducible show wpList _ _ _ ({ dst := _, op := Op.build _ _, type := _, pos := _, after := _, guard := _ } :: _) _ _); refine wpList_table rfl 247 _ rfl wordsV (by kernel_rfl) ?_)
      | ((with_reducible show wpList _ _ _ ({ dst := _, op := Op.store _ _ _, type := _, pos := _, after := _, guard := _ } :: _) _ _); refine wpList_lay rfl _ _ rfl _ wordsV rfl rfl rfl rfl wordsV_one ?_))
    go_ret
    exact ⟨by first | rfl | simp [h1, h2], hb⟩
  · rw [word_out k hk]
    have hd : (decide (1 ≤ k) && decide (k ≤ 19)) = false := by
      by_cases h1 : 1 ≤ k
      · have h2 : ¬ k ≤ 19 := fun h => hk ⟨h1, h⟩
        simp [h2]
      · simp [h1]
    go_enter Try.func116, Try.ntmps116
    go_wp2_with (first
      | ((with_reducible show wpList _ _ _ ({ dst := _, op := Op.build _ _, type := _, pos := _, after := _, guard := _ } :: _) _ _); refine wpList_table rfl 247 _ rfl wordsV (by kernel_rfl) ?_)
      | ((with_reducible show wpList _ _ _ ({ dst := _, op := Op.store _ _ _, type := _, pos := _, after := _, guard := _ } :: _) _ _); refine wpList_lay rfl _ _ rfl _ wordsV rfl rfl rfl rfl wordsV_one ?_))
    all_goals
      go_ret
      exact ⟨by first | rfl | (rw [hd]; rfl), hb⟩
end Go.Proofs.Ytljbehndnledpaa
