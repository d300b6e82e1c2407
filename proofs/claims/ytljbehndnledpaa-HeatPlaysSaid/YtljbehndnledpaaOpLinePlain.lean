/- Plain: an operation's words and its line. No condition. -/
import Derived.Test.YtljbehndnledpaaOpFields
import Derived.Test.YtljbehndnledpaaSplit
import Derived.Lib.OthersKept
namespace Go.Proofs.Ytljbehndnledpaa
open Go.RowKit

/-- What an operation says. -/
structure PO where
  k : Int
  v : Int
  i : Int
  b : Int
  n : Int
  pt : Int
  d : List UInt8
  m : List Int

def PO.right (o : PO) : Bool := rightO o.k o.v o.i o.b o.n o.d.length o.m
def PO.zero : PO := ⟨0, 0, 0, 0, 0, 0, [], []⟩
/-- A number's digits. -/
def numW (z : Int) : List UInt8 := dec z.toNat
/-- The words of what a letter stands for. -/
def PO.part (o : PO) (c : UInt8) : List (List UInt8) :=
  if c = 118 then [numW o.v] else if c = 105 then [numW o.i] else if c = 98 then [numW o.b] else if c = 110 then [numW o.n] else if c = 112 then [numW o.pt]
  else if c = 100 then [hexL o.d] else o.m.map numW
def PO.words (o : PO) : List (List UInt8) := wordL o.k :: (looksL o.k).flatMap o.part
/-- Words, a blank ahead of each. -/
def sp (ps : List (List UInt8)) : List UInt8 := ps.flatMap fun p => 32 :: p
def joinL : List (List UInt8) → List UInt8
  | [] => []
  | w :: r => w ++ sp r
def PO.line (o : PO) : List UInt8 := if o.right then joinL o.words else []

theorem sp_app (a b : List (List UInt8)) : sp (a ++ b) = sp a ++ sp b := by simp [sp]
theorem sp_one (p : List UInt8) : sp [p] = 32 :: p := by simp [sp]
theorem sp_nil : sp [] = [] := rfl

/-- The letters of a kind, each right. -/
theorem PO.right_all {o : PO} (h : o.right = true) : (1 ≤ o.k ∧ o.k ≤ 19) ∧ ∀ c ∈ looksL o.k, mayO o.v o.i o.b o.n o.d.length o.m c = true := by
  unfold PO.right rightO at h
  simp only [Bool.and_eq_true, decide_eq_true_eq] at h
  exact ⟨h.1, fun c hc => List.all_eq_true.1 h.2 c hc⟩

theorem rises_range : ∀ (l : List Int) (a : Int), 0 ≤ a → rises a l = true → ∀ x ∈ l, 1 ≤ x ∧ x ≤ 65535
  | [], _, _, _, x, hx => by simp at hx
  | y :: l, a, ha, h, x, hx => by
    simp only [rises, Bool.and_eq_true, decide_eq_true_eq] at h
    rcases List.mem_cons.1 hx with rfl | hx
    · omega
    · exact rises_range l y (by omega) h.2 x hx

/-- The eight cells of an operation in a block. -/
def Cells8 (w : World) (A : Nat) (k v i b n pt : Int) (dv mv : Value) : Prop :=
  w.cell? ⟨A, 0, none⟩ = some (.int .i64 k) ∧ w.cell? ⟨A, 1, none⟩ = some (.int .i64 v) ∧ w.cell? ⟨A, 2, none⟩ = some (.int .i64 i) ∧ w.cell? ⟨A, 3, none⟩ = some (.int .i64 b) ∧
  w.cell? ⟨A, 4, none⟩ = some (.int .i64 n) ∧ w.cell? ⟨A, 5, none⟩ = some (.int .u64 pt) ∧ w.cell? ⟨A, 6, none⟩ = some dv ∧ w.cell? ⟨A, 7, none⟩ = some mv

theorem Cells8.new (w : World) (k v i b n pt : Int) (dv mv : Value) : Cells8 (w.alloc (.cells #[.int .i64 k, .int .i64 v, .int .i64 i, .int .i64 b, .int .i64 n, .int .u64 pt, dv, mv] 80)) w.heap.size k v i b n pt dv mv := by
  refine ⟨?_, ?_, ?_, ?_, ?_, ?_, ?_, ?_⟩ <;> simp
theorem Cells8.below {B : Nat} {w w' : World} {A : Nat} {k v i b n pt : Int} {dv mv : Value} (h : Cells8 w A k v i b n pt dv mv) (hb : Below B w w') (hA : A < B) : Cells8 w' A k v i b n pt dv mv := by
  obtain ⟨h0, h1, h2, h3, h4, h5, h6, h7⟩ := h
  refine ⟨?_, ?_, ?_, ?_, ?_, ?_, ?_, ?_⟩ <;> rw [hb.cell hA] <;> assumption
end Go.Proofs.Ytljbehndnledpaa
