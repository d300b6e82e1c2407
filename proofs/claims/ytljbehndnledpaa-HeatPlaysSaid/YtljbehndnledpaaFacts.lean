/- The head's words of this seat's translation, and the closed facts on the whole program that each row of the seat asks. No condition. -/
import Derived.Test.YtljbehndnledpaaRows
import Derived.ProofKit
namespace Go.Proofs.Ytljbehndnledpaa

/-- The letters of the head, as numbers. -/
def headNums : List Nat := [104, 97, 114, 110, 101, 115, 115, 32, 100, 55, 100, 97, 98, 57, 100, 48, 49, 56, 54, 53, 56, 48, 57, 97, 100, 99, 57, 56, 57, 99, 49, 100, 100, 49, 100, 49, 49, 97, 55, 50, 101, 102, 55, 55, 50, 57, 100, 49, 101, 56, 56, 100, 51, 56, 49, 52, 99, 98, 54, 57, 49, 48, 56, 54, 57, 53, 98, 51, 99, 56, 54, 53, 32, 99, 117, 116, 32, 97, 116, 32, 121, 101, 115, 116, 101, 114, 121, 101, 97, 114, 47, 121, 101, 115, 116, 101, 114, 121, 101, 97, 114, 108, 97, 119, 53, 48, 46, 83, 101, 97, 114, 99, 104, 70, 105, 114, 115, 116, 32, 121, 101, 115, 116, 101, 114, 121, 101, 97, 114, 47, 121, 101, 115, 116, 101, 114, 121, 101, 97, 114, 108, 97, 119, 52, 55, 46, 77, 97, 110, 105, 102, 101, 115, 116, 84, 101, 120, 116, 115, 32, 121, 101, 115, 116, 101, 114, 121, 101, 97, 114, 47, 121, 101, 115, 116, 101, 114, 121, 101, 97, 114, 108, 97, 119, 48, 56, 46, 84, 101, 120, 116, 78, 117, 109, 115, 32, 121, 101, 115, 116, 101, 114, 121, 101, 97, 114, 47, 121, 101, 115, 116, 101, 114, 121, 101, 97, 114, 108, 97, 119, 48, 56, 46, 84, 101, 120, 116, 72, 101, 120, 32, 121, 101, 115, 116, 101, 114, 121, 101, 97, 114, 47, 121, 101, 115, 116, 101, 114, 121, 101, 97, 114, 108, 97, 119, 48, 56, 46, 84, 101, 120, 116, 87, 111, 114, 100, 115, 32, 121, 101, 115, 116, 101, 114, 121, 101, 97, 114, 47, 121, 101, 115, 116, 101, 114, 121, 101, 97, 114, 108, 97, 119, 53, 50, 46, 69, 120, 112, 111, 114, 116, 80, 117, 116, 115, 32, 121, 101, 115, 116, 101, 114, 121, 101, 97, 114, 47, 121, 101, 115, 116, 101, 114, 121, 101, 97, 114, 108, 97, 119, 53, 50, 46, 69, 120, 112, 111, 114, 116, 71, 101, 116, 115, 32, 121, 101, 115, 116, 101, 114, 121, 101, 97, 114, 47, 121, 101, 115, 116, 101, 114, 121, 101, 97, 114, 108, 97, 119, 52, 54, 46, 83, 99, 114, 117, 98, 67, 111, 117, 110, 116, 115, 32, 121, 101, 115, 116, 101, 114, 121, 101, 97, 114, 47, 121, 101, 115, 116, 101, 114, 121, 101, 97, 114, 108, 97, 119, 50, 57, 46, 83, 99, 114, 105, 112, 116, 76, 105, 110, 101, 115, 32, 121, 101, 115, 116, 101, 114, 121, 101, 97, 114, 47, 121, 101, 115, 116, 101, 114, 121, 101, 97, 114, 108, 97, 119, 50, 57, 46, 83, 99, 114, 105, 112, 116, 82, 101, 97, 100, 115, 32, 121, 101, 115, 116, 101, 114, 121, 101, 97, 114, 47, 121, 101, 115, 116, 101, 114, 121, 101, 97, 114, 108, 97, 119, 50, 57, 46, 83, 99, 114, 105, 112, 116, 66, 97, 99, 107, 32, 121, 101, 115, 116, 101, 114, 121, 101, 97, 114, 47, 121, 101, 115, 116, 101, 114, 121, 101, 97, 114, 108, 97, 119, 53, 55, 46, 72, 101, 97, 116, 80, 108, 97, 121, 115, 32, 121, 101, 115, 116, 101, 114, 121, 101, 97, 114, 47, 121, 101, 115, 116, 101, 114, 121, 101, 97, 114, 108, 97, 119, 54, 51, 46, 76, 101, 100, 103, 101, 114, 67, 104, 97, 110, 103, 101, 100, 32, 121, 101, 115, 116, 101, 114, 121, 101, 97, 114, 47, 121, 101, 115, 116, 101, 114, 121, 101, 97, 114, 108, 97, 119, 53, 54, 46, 66, 97, 116, 99, 104, 83, 113, 117, 97, 115, 104, 32, 121, 101, 115, 116, 101, 114, 121, 101, 97, 114, 47, 121, 101, 115, 116, 101, 114, 121, 101, 97, 114, 108, 97, 119, 54, 48, 46, 67, 117, 114, 115, 111, 114, 76, 105, 110, 101, 115]
def splitNums : List Nat → List (List Nat)
  | [] => [[]]
  | n :: r => if n = 32 then [] :: splitNums r else match splitNums r with
    | w :: ws => (n :: w) :: ws
    | [] => [[n]]

theorem ofNat_space (n : Nat) (h : n < 55296) (e : Char.ofNat n = Char.ofNat 32) : n = 32 := by
  have h1 := congrArg Char.toNat e
  have h2 : (Char.ofNat n).toNat = n := by have hv : n.isValidChar := .inl h; simp [Char.ofNat, dif_pos hv, Char.toNat, Char.ofNatAux]
  have h3 : (Char.ofNat 32).toNat = 32 := rfl
  omega

theorem splitNums_ne (l : List Nat) : splitNums l ≠ [] := by
  cases l with
  | nil => simp [splitNums]
  | cons n r =>
    unfold splitNums
    split
    · simp
    · split <;> simp

theorem words_nums : ∀ l : List Nat, (∀ n ∈ l, n < 55296) → wordsSigns (l.map Char.ofNat) = (splitNums l).map (·.map Char.ofNat)
  | [], _ => rfl
  | n :: r, h => by
    have ih := words_nums r (fun m hm => h m (List.mem_cons_of_mem _ hm))
    by_cases hn : n = 32
    · subst hn
      show wordsSigns (Char.ofNat 32 :: r.map Char.ofNat) = _
      have : wordsSigns (Char.ofNat 32 :: r.map Char.ofNat) = [] :: wordsSigns (r.map Char.ofNat) := rfl
      rw [this, ih]
      simp [splitNums]
    · have hc : Char.ofNat n ≠ Char.ofNat 32 := fun e => hn (ofNat_space n (h n List.mem_cons_self) e)
      have hw : wordsSigns (Char.ofNat n :: r.map Char.ofNat) = match wordsSigns (r.map Char.ofNat) with | w :: ws => (Char.ofNat n :: w) :: ws | [] => [[Char.ofNat n]] := by
        conv => lhs; unfold wordsSigns
        split
        · rename_i heq; cases heq
        · rename_i heq; injection heq with h1 h2; exact absurd h1 hc
        · rename_i heq; injection heq with h1 h2; subst h1; subst h2; rfl
      show wordsSigns (Char.ofNat n :: r.map Char.ofNat) = _
      rw [hw, ih]
      simp only [splitNums, if_neg hn]
      cases hs : splitNums r with
      | nil => exact absurd hs (splitNums_ne r)
      | cons w ws => simp

theorem headIs : Try.prog.initOrder = String.ofList (headNums.map Char.ofNat) := by kernel_rfl
theorem headSmall : (headNums.all fun n => decide (n < 55296)) = true := by kernel_rfl
def headWords : List (List Nat) := [[104, 97, 114, 110, 101, 115, 115], [100, 55, 100, 97, 98, 57, 100, 48, 49, 56, 54, 53, 56, 48, 57, 97, 100, 99, 57, 56, 57, 99, 49, 100, 100, 49, 100, 49, 49, 97, 55, 50, 101, 102, 55, 55, 50, 57, 100, 49, 101, 56, 56, 100, 51, 56, 49, 52, 99, 98, 54, 57, 49, 48, 56, 54, 57, 53, 98, 51, 99, 56, 54, 53], [99, 117, 116], [97, 116], [121, 101, 115, 116, 101, 114, 121, 101, 97, 114, 47, 121, 101, 115, 116, 101, 114, 121, 101, 97, 114, 108, 97, 119, 53, 48, 46, 83, 101, 97, 114, 99, 104, 70, 105, 114, 115, 116], [121, 101, 115, 116, 101, 114, 121, 101, 97, 114, 47, 121, 101, 115, 116, 101, 114, 121, 101, 97, 114, 108, 97, 119, 52, 55, 46, 77, 97, 110, 105, 102, 101, 115, 116, 84, 101, 120, 116, 115], [121, 101, 115, 116, 101, 114, 121, 101, 97, 114, 47, 121, 101, 115, 116, 101, 114, 121, 101, 97, 114, 108, 97, 119, 48, 56, 46, 84, 101, 120, 116, 78, 117, 109, 115], [121, 101, 115, 116, 101, 114, 121, 101, 97, 114, 47, 121, 101, 115, 116, 101, 114, 121, 101, 97, 114, 108, 97, 119, 48, 56, 46, 84, 101, 120, 116, 72, 101, 120], [121, 101, 115, 116, 101, 114, 121, 101, 97, 114, 47, 121, 101, 115, 116, 101, 114, 121, 101, 97, 114, 108, 97, 119, 48, 56, 46, 84, 101, 120, 116, 87, 111, 114, 100, 115], [121, 101, 115, 116, 101, 114, 121, 101, 97, 114, 47, 121, 101, 115, 116, 101, 114, 121, 101, 97, 114, 108, 97, 119, 53, 50, 46, 69, 120, 112, 111, 114, 116, 80, 117, 116, 115], [121, 101, 115, 116, 101, 114, 121, 101, 97, 114, 47, 121, 101, 115, 116, 101, 114, 121, 101, 97, 114, 108, 97, 119, 53, 50, 46, 69, 120, 112, 111, 114, 116, 71, 101, 116, 115], [121, 101, 115, 116, 101, 114, 121, 101, 97, 114, 47, 121, 101, 115, 116, 101, 114, 121, 101, 97, 114, 108, 97, 119, 52, 54, 46, 83, 99, 114, 117, 98, 67, 111, 117, 110, 116, 115], [121, 101, 115, 116, 101, 114, 121, 101, 97, 114, 47, 121, 101, 115, 116, 101, 114, 121, 101, 97, 114, 108, 97, 119, 50, 57, 46, 83, 99, 114, 105, 112, 116, 76, 105, 110, 101, 115], [121, 101, 115, 116, 101, 114, 121, 101, 97, 114, 47, 121, 101, 115, 116, 101, 114, 121, 101, 97, 114, 108, 97, 119, 50, 57, 46, 83, 99, 114, 105, 112, 116, 82, 101, 97, 100, 115], [121, 101, 115, 116, 101, 114, 121, 101, 97, 114, 47, 121, 101, 115, 116, 101, 114, 121, 101, 97, 114, 108, 97, 119, 50, 57, 46, 83, 99, 114, 105, 112, 116, 66, 97, 99, 107], [121, 101, 115, 116, 101, 114, 121, 101, 97, 114, 47, 121, 101, 115, 116, 101, 114, 121, 101, 97, 114, 108, 97, 119, 53, 55, 46, 72, 101, 97, 116, 80, 108, 97, 121, 115], [121, 101, 115, 116, 101, 114, 121, 101, 97, 114, 47, 121, 101, 115, 116, 101, 114, 121, 101, 97, 114, 108, 97, 119, 54, 51, 46, 76, 101, 100, 103, 101, 114, 67, 104, 97, 110, 103, 101, 100], [121, 101, 115, 116, 101, 114, 121, 101, 97, 114, 47, 121, 101, 115, 116, 101, 114, 121, 101, 97, 114, 108, 97, 119, 53, 54, 46, 66, 97, 116, 99, 104, 83, 113, 117, 97, 115, 104], [121, 101, 115, 116, 101, 114, 121, 101, 97, 114, 47, 121, 101, 115, 116, 101, 114, 121, 101, 97, 114, 108, 97, 119, 54, 48, 46, 67, 117, 114, 115, 111, 114, 76, 105, 110, 101, 115]]
theorem headSplit : splitNums headNums = headWords := by kernel_rfl
theorem headW0 : wordsSigns Try.prog.initOrder.toList = headWords.map (·.map Char.ofNat) := by
  rw [headIs, String.toList_ofList, words_nums headNums (fun n hn => of_decide_eq_true (List.all_eq_true.1 headSmall n hn)), headSplit]
def headTail : List (List Nat) := [[99, 117, 116], [97, 116], [121, 101, 115, 116, 101, 114, 121, 101, 97, 114, 47, 121, 101, 115, 116, 101, 114, 121, 101, 97, 114, 108, 97, 119, 53, 48, 46, 83, 101, 97, 114, 99, 104, 70, 105, 114, 115, 116], [121, 101, 115, 116, 101, 114, 121, 101, 97, 114, 47, 121, 101, 115, 116, 101, 114, 121, 101, 97, 114, 108, 97, 119, 52, 55, 46, 77, 97, 110, 105, 102, 101, 115, 116, 84, 101, 120, 116, 115], [121, 101, 115, 116, 101, 114, 121, 101, 97, 114, 47, 121, 101, 115, 116, 101, 114, 121, 101, 97, 114, 108, 97, 119, 48, 56, 46, 84, 101, 120, 116, 78, 117, 109, 115], [121, 101, 115, 116, 101, 114, 121, 101, 97, 114, 47, 121, 101, 115, 116, 101, 114, 121, 101, 97, 114, 108, 97, 119, 48, 56, 46, 84, 101, 120, 116, 72, 101, 120], [121, 101, 115, 116, 101, 114, 121, 101, 97, 114, 47, 121, 101, 115, 116, 101, 114, 121, 101, 97, 114, 108, 97, 119, 48, 56, 46, 84, 101, 120, 116, 87, 111, 114, 100, 115], [121, 101, 115, 116, 101, 114, 121, 101, 97, 114, 47, 121, 101, 115, 116, 101, 114, 121, 101, 97, 114, 108, 97, 119, 53, 50, 46, 69, 120, 112, 111, 114, 116, 80, 117, 116, 115], [121, 101, 115, 116, 101, 114, 121, 101, 97, 114, 47, 121, 101, 115, 116, 101, 114, 121, 101, 97, 114, 108, 97, 119, 53, 50, 46, 69, 120, 112, 111, 114, 116, 71, 101, 116, 115], [121, 101, 115, 116, 101, 114, 121, 101, 97, 114, 47, 121, 101, 115, 116, 101, 114, 121, 101, 97, 114, 108, 97, 119, 52, 54, 46, 83, 99, 114, 117, 98, 67, 111, 117, 110, 116, 115], [121, 101, 115, 116, 101, 114, 121, 101, 97, 114, 47, 121, 101, 115, 116, 101, 114, 121, 101, 97, 114, 108, 97, 119, 50, 57, 46, 83, 99, 114, 105, 112, 116, 76, 105, 110, 101, 115], [121, 101, 115, 116, 101, 114, 121, 101, 97, 114, 47, 121, 101, 115, 116, 101, 114, 121, 101, 97, 114, 108, 97, 119, 50, 57, 46, 83, 99, 114, 105, 112, 116, 82, 101, 97, 100, 115], [121, 101, 115, 116, 101, 114, 121, 101, 97, 114, 47, 121, 101, 115, 116, 101, 114, 121, 101, 97, 114, 108, 97, 119, 50, 57, 46, 83, 99, 114, 105, 112, 116, 66, 97, 99, 107], [121, 101, 115, 116, 101, 114, 121, 101, 97, 114, 47, 121, 101, 115, 116, 101, 114, 121, 101, 97, 114, 108, 97, 119, 53, 55, 46, 72, 101, 97, 116, 80, 108, 97, 121, 115], [121, 101, 115, 116, 101, 114, 121, 101, 97, 114, 47, 121, 101, 115, 116, 101, 114, 121, 101, 97, 114, 108, 97, 119, 54, 51, 46, 76, 101, 100, 103, 101, 114, 67, 104, 97, 110, 103, 101, 100], [121, 101, 115, 116, 101, 114, 121, 101, 97, 114, 47, 121, 101, 115, 116, 101, 114, 121, 101, 97, 114, 108, 97, 119, 53, 54, 46, 66, 97, 116, 99, 104, 83, 113, 117, 97, 115, 104], [121, 101, 115, 116, 101, 114, 121, 101, 97, 114, 47, 121, 101, 115, 116, 101, 114, 121, 101, 97, 114, 108, 97, 119, 54, 48, 46, 67, 117, 114, 115, 111, 114, 76, 105, 110, 101, 115]]
theorem headW : behindMainWord (wordsSigns Try.prog.initOrder.toList) = headTail.map (·.map Char.ofNat) := by
  rw [headW0]; kernel_rfl
theorem mayEnter_of {P : Program} {c : List Char} {rest : List (List Char)} (h : behindMainWord (wordsSigns P.initOrder.toList) = c :: rest)
    (hc : ((stripLifts liftWords (c :: rest)).2.head? == some "cut".toList) = true) (hl : (stripLifts liftWords (c :: rest)).1 = [])
    (h1 : P.laysLater = false) (h2 : P.bearsReflect = false) (h3 : P.doorFits [] = true) : P.mayEnter = true := by
  unfold Program.mayEnter
  rw [h]
  simp only [hl, hc, h1, h2, h3]
  simp
theorem headLifts_of {P : Program} {l : List (List Char)} (h : behindMainWord (wordsSigns P.initOrder.toList) = l) (hl : (stripLifts liftWords l).1 = []) : P.headLifts = [] := by
  unfold Program.headLifts
  rw [h]
  simp only [hl]
  simp
theorem liftsFinal_of {P : Program} {l : List (List Char)} (h : behindMainWord (wordsSigns P.initOrder.toList) = l) (hl : (l.head? == some "carried".toList) = false) (hh : P.headLifts = []) : P.liftsFinal = false := by
  unfold Program.liftsFinal
  rw [h, hh]
  simp only [hl]
  simp
theorem make_of {P : Program} {c : List Char} {rest : List (List Char)} (h : behindMainWord (wordsSigns P.initOrder.toList) = c :: rest)
    (h1 : (c == "gc".toList) = false) (h2 : (c == "spec".toList) = false) (h3 : (c == "cut".toList) = true) : P.make = some .cut := by
  unfold Program.make
  rw [h]
  simp only [h1, h2, h3]
  simp
def headFirst : List Char := headTail.head!.map Char.ofNat
def headRest : List (List Char) := headTail.tail.map (·.map Char.ofNat)
theorem headW' : behindMainWord (wordsSigns Try.prog.initOrder.toList) = headFirst :: headRest := headW
theorem mayEnterIs : Try.prog.mayEnter = true := mayEnter_of headW' (by kernel_rfl) (by kernel_rfl) (by kernel_rfl) (by kernel_rfl) (by kernel_rfl)
theorem liftsIs : Try.prog.headLifts = [] := headLifts_of headW' (by kernel_rfl)
theorem liftsFinalIs : Try.prog.liftsFinal = false := liftsFinal_of headW' (by kernel_rfl) liftsIs
theorem makeIs : Try.prog.make = some .cut := make_of headW' (by kernel_rfl) (by kernel_rfl) (by kernel_rfl)
theorem laidOutIs : laidOutB Try.prog = true := by kernel_rfl
theorem mapsRowedIs : mapsRowed Try.prog = true := by kernel_rfl
theorem plainKeysIs : Try.prog.plainKeys = false := by kernel_rfl
theorem stopsHeardIs : Try.prog.stopsHeard = true := by kernel_rfl
theorem stopsIs : Try.prog.stops = [] := by kernel_rfl
theorem stopKnobsIs : Try.prog.stopKnobs = [] := by kernel_rfl
end Go.Proofs.Ytljbehndnledpaa
