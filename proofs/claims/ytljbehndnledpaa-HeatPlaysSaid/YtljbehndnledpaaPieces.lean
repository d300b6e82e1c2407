/- Plain laws on the pieces of a text between bytes, and slices of texts. Conditions: those of each theorem. -/
import Derived.Test.YtljbehndnledpaaUnhex
namespace Go.Proofs.Ytljbehndnledpaa
open Go.RowKit

/-- Bytes as a text. -/
def mkS (l : List UInt8) : ByteArray := ⟨l.toArray⟩
/-- A text as a cell. -/
def sv (s : ByteArray) : Value := .string s

def pstep (c : UInt8) (st : List (List UInt8) × List UInt8) (x : UInt8) : List (List UInt8) × List UInt8 :=
  if x = c then (st.1 ++ [st.2], []) else (st.1, st.2 ++ [x])
def fwd (c : UInt8) (l : List UInt8) : List (List UInt8) × List UInt8 := l.foldl (pstep c) ([], [])
/-- The pieces of a text between bytes. -/
def pieces (c : UInt8) (l : List UInt8) : List (List UInt8) := (fwd c l).1 ++ [(fwd c l).2]
def wordsL (l : List UInt8) : List (List UInt8) := (pieces 32 l).filter fun p => !p.isEmpty
def linesL (l : List UInt8) : List (List UInt8) := if (fwd 10 l).2 = [] then (fwd 10 l).1 else pieces 10 l

theorem fwd_snoc (c : UInt8) (l : List UInt8) (x : UInt8) : fwd c (l ++ [x]) = pstep c (fwd c l) x := by simp [fwd, List.foldl_append]

theorem fwd_len (c : UInt8) (l : List UInt8) : (fwd c l).1.length ≤ l.length ∧ (fwd c l).2.length ≤ l.length := by
  refine snoc_ind (P := fun l => (fwd c l).1.length ≤ l.length ∧ (fwd c l).2.length ≤ l.length) (by simp [fwd]) (fun l x ih => ?_) l
  rw [fwd_snoc, List.length_append, List.length_singleton]
  unfold pstep
  split
  · rw [List.length_append, List.length_singleton, List.length_nil]; omega
  · simp only [List.length_append, List.length_singleton]; omega

theorem extract_list (s : ByteArray) (a b : Nat) : s.extract a b = mkS ((s.data.toList.take b).drop a) := by
  apply ByteArray.ext
  apply Array.toList_inj.1
  simp [mkS, Array.toList_extract, List.drop_take]

theorem mkS_size (l : List UInt8) : (mkS l).size = l.length := by show l.toArray.size = _; simp
theorem mkS_data (l : List UInt8) : (mkS l).data.toList = l := by simp [mkS]
theorem mkS_eta (s : ByteArray) : mkS s.data.toList = s := (str_eta' s).symm
  where str_eta' (s : ByteArray) : s = mkS s.data.toList := by apply ByteArray.ext; simp [mkS]

/-- A slice of texts. -/
def Ss (w : World) (a : Option Addr) (n : Nat) (l : List ByteArray) : Prop := Sl w a n (l.map sv)

theorem Ss.below {B : Nat} {w w' : World} {a : Option Addr} {n : Nat} {l : List ByteArray} (h : Ss w a n l) (hb : Below B w w') (hB : w.heap.size ≤ B) : Ss w' a n l := Sl.below h hb hB
theorem Ss.len {w : World} {a : Option Addr} {n : Nat} {l : List ByteArray} (h : Ss w a n l) : l.length = n := by have := h.1; simpa using this

theorem Sl.at {w : World} {a : Option Addr} {n : Nat} {xs : List Value} (h : Sl w a n xs) (hn : 0 < n) :
    ∃ b o, a = some ⟨b, o, none⟩ ∧ ∀ i x, xs[i]? = some x → w.cell? ⟨b, o + i, none⟩ = some x := by
  have hl := h.1
  obtain ⟨b, o, ha, _⟩ := h.2 0 _ (List.getElem?_eq_getElem (by omega))
  refine ⟨b, o, ha, fun i x hx => ?_⟩
  obtain ⟨b', o', ha', hc⟩ := h.2 i x hx
  rw [ha] at ha'
  simp only [Option.some.injEq, Addr.mk.injEq, and_true] at ha'
  obtain ⟨rfl, rfl⟩ := ha'
  exact hc

/-- A slice of the call's own is one that reads. -/
theorem own_sl {w : World} {base n : Nat} {e : TypeId} {v : Value} {xs : List Value} (h : w.ownsRow base e 1 v n xs) : ∃ a cap, v = .slice a n cap ∧ Sl w a n xs ∧ n ≤ cap := by
  have hl : xs.length = n := by have := h.1; simpa using this
  rcases h.2 with ⟨rfl, rfl⟩ | ⟨g, cap, cur, rfl, hbg, hg, hnc, hcm, hcs, htake⟩
  · have : xs = [] := List.eq_nil_of_length_eq_zero hl
    subst this
    exact ⟨none, 0, rfl, ⟨rfl, fun i x hx => by simp at hx⟩, by omega⟩
  · refine ⟨some ⟨g, 0, none⟩, cap, rfl, ⟨hl, fun i x hx => ⟨g, 0, rfl, ?_⟩⟩, hnc⟩
    have := h.cells (g := g) rfl i x hx
    rw [← this]
    congr 1
    unfold Addr.add
    split <;> simp_all

theorem info9 : (Try.prog.info? 9).map (fun i => (i.zero, i.size, i.bytes)) = some (some (.string ByteArray.empty), 1, 16) := by kernel_rfl
end Go.Proofs.Ytljbehndnledpaa
