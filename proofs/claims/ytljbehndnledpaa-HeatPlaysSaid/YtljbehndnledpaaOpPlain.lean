/- Plain: which operations may be. No condition. -/
import Derived.Test.YtljbehndnledpaaBase
namespace Go.Proofs.Ytljbehndnledpaa

def okId (n : Int) : Bool := decide (1 ≤ n) && decide (n ≤ 65535)
def okPlace (n : Int) : Bool := decide (0 ≤ n) && decide (n ≤ 31)
def okCount (n : Int) : Bool := decide (1 ≤ n) && decide (n ≤ 32)
def okData (n : Nat) : Bool := decide (1 ≤ n) && decide (n ≤ 64)
/-- Do numbers rise from one on, none beyond 65535? -/
def rises : Int → List Int → Bool
  | _, [] => true
  | last, x :: r => decide (last < x) && decide (x ≤ 65535) && rises x r
def okMem (l : List Int) : Bool := rises 0 l && (decide (1 ≤ l.length) && decide (l.length ≤ 8))

/-- What a kind looks at. -/
def looksL (k : Int) : List UInt8 :=
  if k = 1 then [110] else if k = 2 then [118] else if k = 3 then [118, 110] else if k = 4 then [118, 98, 100] else if k = 5 then [118, 98, 110]
  else if k = 6 then [109] else if k = 7 then [105] else if k = 8 then [105] else if k = 9 then [105] else if k = 10 then [118, 112] else if k = 11 then [118, 112]
  else if k = 12 then [118, 105] else if k = 13 then [118, 112] else if k = 14 then [] else if k = 15 then [118, 98] else if k = 16 then [118, 98, 112]
  else if k = 17 then [] else if k = 18 then [112] else []
/-- May what a letter stands for be? -/
def mayO (v i b n : Int) (dn : Nat) (mem : List Int) (c : UInt8) : Bool :=
  if c = 118 then okId v else if c = 105 then okId i else if c = 98 then okPlace b else if c = 110 then okCount n else if c = 100 then okData dn else if c = 109 then okMem mem else true
/-- May an operation be? -/
def rightO (k v i b n : Int) (dn : Nat) (mem : List Int) : Bool :=
  (decide (1 ≤ k) && decide (k ≤ 19)) && (looksL k).all (mayO v i b n dn mem)

theorem kinds (k : Int) (h1 : 1 ≤ k) (h2 : k ≤ 19) : k = 1 ∨ k = 2 ∨ k = 3 ∨ k = 4 ∨ k = 5 ∨ k = 6 ∨ k = 7 ∨ k = 8 ∨ k = 9 ∨ k = 10 ∨ k = 11 ∨ k = 12 ∨ k = 13 ∨ k = 14 ∨ k = 15 ∨ k = 16 ∨ k = 17 ∨ k = 18 ∨ k = 19 := by omega
end Go.Proofs.Ytljbehndnledpaa
