/- The head's words of this seat's translation, and the closed facts on the whole program that each row of the seat asks. No condition. -/
import Derived.Test.YtfldlfladcfggaaGreatRows
import Derived.ProofKit
namespace Go.Proofs.YtfldlfladcfggaaGreat

/-- The letters of the head, as numbers. -/
def headNums : List Nat := [104, 97, 114, 110, 101, 115, 115, 32, 50, 53, 57, 48, 97, 49, 100, 102, 49, 49, 101, 99, 48, 56, 52, 102, 99, 56, 53, 53, 56, 56, 57, 49, 53, 55, 100, 57, 98, 53, 51, 57, 98, 54, 53, 50, 55, 100, 49, 57, 53, 55, 55, 54, 53, 52, 54, 52, 54, 57, 97, 49, 51, 99, 98, 50, 100, 56, 51, 98, 99, 48, 102, 57, 32, 99, 117, 116, 32, 97, 116, 32, 121, 101, 115, 116, 101, 114, 121, 101, 97, 114, 47, 121, 101, 115, 116, 101, 114, 121, 101, 97, 114, 108, 97, 119, 53, 54, 46, 66, 97, 116, 99, 104, 83, 97, 109, 101]
def splitNums : List Nat → List (List Nat)
  | [] => [[]]
  | n :: r => if n = 32 then [] :: splitNums r else match splitNums r with
    | w :: ws => (n :: w) :: ws
    | [] => [[n]]

theorem ofNat_space (n : Nat) (h : n < 55296) (e : Char.ofNat n = Char.ofNat 32) : n = 32 := by
  have h1 := congrArg Char.toNat e
  have h2 : (Char.ofNat n).toNat = n := by have hv : n.isValidChar := .inl h; simp [Char.ofNat, dif_pos hv, Char.toNat, Char.ofNatAux]
  have h3 : (Char.ofNat 32).toNat = 32 := rfl
  omega

theorem splitNums_ne (l : List Nat) : splitNums l ≠ [] := by
  cases l with
  | nil => simp [splitNums]
  | cons n r =>
    unfold splitNums
    split
    · simp
    · split <;> simp

theorem words_nums : ∀ l : List Nat, (∀ n ∈ l, n < 55296) → wordsSigns (l.map Char.ofNat) = (splitNums l).map (·.map Char.ofNat)
  | [], _ => rfl
  | n :: r, h => by
    have ih := words_nums r (fun m hm => h m (List.mem_cons_of_mem _ hm))
    by_cases hn : n = 32
    · subst hn
      show wordsSigns (Char.ofNat 32 :: r.map Char.ofNat) = _
      have : wordsSigns (Char.ofNat 32 :: r.map Char.ofNat) = [] :: wordsSigns (r.map Char.ofNat) := rfl
      rw [this, ih]
      simp [splitNums]
    · have hc : Char.ofNat n ≠ Char.ofNat 32 := fun e => hn (ofNat_space n (h n List.mem_cons_self) e)
      have hw : wordsSigns (Char.ofNat n :: r.map Char.ofNat) = match wordsSigns (r.map Char.ofNat) with | w :: ws => (Char.ofNat n :: w) :: ws | [] => [[Char.ofNat n]] := by
        conv => lhs; unfold wordsSigns
        split
        · rename_i heq; cases heq
        · rename_i heq; injection heq with h1 h2; exact absurd h1 hc
        · rename_i heq; injection heq with h1 h2; subst h1; subst h2; rfl
      show wordsSigns (Char.ofNat n :: r.map Char.ofNat) = _
      rw [hw, ih]
      simp only [splitNums, if_neg hn]
      cases hs : splitNums r with
      | nil => exact absurd hs (splitNums_ne r)
      | cons w ws => simp

theorem headIs : Tryz.prog.initOrder = String.ofList (headNums.map Char.ofNat) := by kernel_rfl
theorem headSmall : (headNums.all fun n => decide (n < 55296)) = true := by kernel_rfl
def headWords : List (List Nat) := [[104, 97, 114, 110, 101, 115, 115], [50, 53, 57, 48, 97, 49, 100, 102, 49, 49, 101, 99, 48, 56, 52, 102, 99, 56, 53, 53, 56, 56, 57, 49, 53, 55, 100, 57, 98, 53, 51, 57, 98, 54, 53, 50, 55, 100, 49, 57, 53, 55, 55, 54, 53, 52, 54, 52, 54, 57, 97, 49, 51, 99, 98, 50, 100, 56, 51, 98, 99, 48, 102, 57], [99, 117, 116], [97, 116], [121, 101, 115, 116, 101, 114, 121, 101, 97, 114, 47, 121, 101, 115, 116, 101, 114, 121, 101, 97, 114, 108, 97, 119, 53, 54, 46, 66, 97, 116, 99, 104, 83, 97, 109, 101]]
theorem headSplit : splitNums headNums = headWords := by kernel_rfl
theorem headW0 : wordsSigns Tryz.prog.initOrder.toList = headWords.map (·.map Char.ofNat) := by
  rw [headIs, String.toList_ofList, words_nums headNums (fun n hn => of_decide_eq_true (List.all_eq_true.1 headSmall n hn)), headSplit]
def headTail : List (List Nat) := [[99, 117, 116], [97, 116], [121, 101, 115, 116, 101, 114, 121, 101, 97, 114, 47, 121, 101, 115, 116, 101, 114, 121, 101, 97, 114, 108, 97, 119, 53, 54, 46, 66, 97, 116, 99, 104, 83, 97, 109, 101]]
theorem headW : behindMainWord (wordsSigns Tryz.prog.initOrder.toList) = headTail.map (·.map Char.ofNat) := by
  rw [headW0]; kernel_rfl
theorem mayEnter_of {P : Program} {c : List Char} {rest : List (List Char)} (h : behindMainWord (wordsSigns P.initOrder.toList) = c :: rest)
    (hc : ((stripLifts liftWords (c :: rest)).2.head? == some "cut".toList) = true) (hl : (stripLifts liftWords (c :: rest)).1 = [])
    (h1 : P.laysLater = false) (h2 : P.bearsReflect = false) (h3 : P.doorFits [] = true) : P.mayEnter = true := by
  unfold Program.mayEnter
  rw [h]
  simp only [hl, hc, h1, h2, h3]
  simp
theorem headLifts_of {P : Program} {l : List (List Char)} (h : behindMainWord (wordsSigns P.initOrder.toList) = l) (hl : (stripLifts liftWords l).1 = []) : P.headLifts = [] := by
  unfold Program.headLifts
  rw [h]
  simp only [hl]
  simp
theorem liftsFinal_of {P : Program} {l : List (List Char)} (h : behindMainWord (wordsSigns P.initOrder.toList) = l) (hl : (l.head? == some "carried".toList) = false) (hh : P.headLifts = []) : P.liftsFinal = false := by
  unfold Program.liftsFinal
  rw [h, hh]
  simp only [hl]
  simp
theorem make_of {P : Program} {c : List Char} {rest : List (List Char)} (h : behindMainWord (wordsSigns P.initOrder.toList) = c :: rest)
    (h1 : (c == "gc".toList) = false) (h2 : (c == "spec".toList) = false) (h3 : (c == "cut".toList) = true) : P.make = some .cut := by
  unfold Program.make
  rw [h]
  simp only [h1, h2, h3]
  simp
def headFirst : List Char := headTail.head!.map Char.ofNat
def headRest : List (List Char) := headTail.tail.map (·.map Char.ofNat)
theorem headW' : behindMainWord (wordsSigns Tryz.prog.initOrder.toList) = headFirst :: headRest := headW
theorem mayEnterIs : Tryz.prog.mayEnter = true := mayEnter_of headW' (by kernel_rfl) (by kernel_rfl) (by kernel_rfl) (by kernel_rfl) (by kernel_rfl)
theorem liftsIs : Tryz.prog.headLifts = [] := headLifts_of headW' (by kernel_rfl)
theorem liftsFinalIs : Tryz.prog.liftsFinal = false := liftsFinal_of headW' (by kernel_rfl) liftsIs
theorem makeIs : Tryz.prog.make = some .cut := make_of headW' (by kernel_rfl) (by kernel_rfl) (by kernel_rfl)
theorem laidOutIs : laidOutB Tryz.prog = true := by kernel_rfl
theorem mapsRowedIs : mapsRowed Tryz.prog = true := by kernel_rfl
theorem plainKeysIs : Tryz.prog.plainKeys = false := by kernel_rfl
theorem stopsHeardIs : Tryz.prog.stopsHeard = true := by kernel_rfl
theorem stopsIs : Tryz.prog.stops = [] := by kernel_rfl
theorem stopKnobsIs : Tryz.prog.stopKnobs = [] := by kernel_rfl
end Go.Proofs.YtfldlfladcfggaaGreat
