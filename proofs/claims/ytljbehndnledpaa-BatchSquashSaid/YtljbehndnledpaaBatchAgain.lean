/- The walks of yesteryearlaw40.Few and of yesteryearlaw56.again. Conditions: those of each theorem. -/
import Derived.Test.YtljbehndnledpaaBatchSmall
import Derived.Test.YtljbehndnledpaaOpFields
namespace Go.Proofs.Ytljbehndnledpaa
open Go.RowKit

/-- An operation that is not great. -/
def fineO (o : PO) : Bool := !(decide (300 < o.d.length) || decide (100 < o.m.length))

set_option maxRecDepth 100000 in
set_option maxHeartbeats 4000000 in
theorem few_any (a : Option Addr) (n c : Nat) (l : List PO) (most : Int) (w : World) (h : Ops w a n l) (hn : n ≤ 1000000000) :
    Calls Try.prog 81 #[.slice a n c, .int .i64 most] w fun e w' => e = .returned (.bool (decide ((n : Int) ≤ most) && l.all fineO)) ∧ Below w.heap.size w w' := by
  by_cases hm : most < (n : Int)
  · go_enter Try.func81, Try.ntmps81
    go_wp2_with fail
    go_ret
    exact ⟨ret_bool (by rw [decide_eq_false (by omega)]; rfl), Below.refl _ _⟩
  · have hm' : (n : Int) ≤ most := by omega
    have hd : decide ((n : Int) ≤ most) = true := by simp [hm']
    rw [hd, Bool.true_and]
    have H := Lib.hid h
    have HL := Lib.hid h.1
    clear h hd
    go_enter Try.func81, Try.ntmps81
    go_wp2_with fail
    go_loopw [5] (fun u5 wr => ∃ i : Nat, i ≤ n ∧ u5 = .int .i64 i ∧ (l.take i).all fineO = true ∧ Below w.heap.size w wr) (fun u5 _ => n - (intOf u5).toNat)
    case atStart => exact ⟨0, by omega, rfl, by simp, Below.refl _ _⟩
    case round =>
      obtain ⟨i, hi, rfl, hall, hbw⟩ := hrel
      by_cases hlt : i < n
      · obtain ⟨o, ho⟩ : ∃ o, l[i]? = some o := ⟨_, List.getElem?_eq_getElem (by rw [HL.out]; exact hlt)⟩
        obtain ⟨b, p, dv, mv, rfl, hc, da, dc, ma, mc, rfl, rfl, -, -⟩ := (H.out.below hbw (Nat.le_refl _)).2 i o ho
        have c0 := hc 0 _ rfl
        have c1 := hc 1 _ rfl
        have c2 := hc 2 _ rfl
        have c3 := hc 3 _ rfl
        have c4 := hc 4 _ rfl
        have c5 := hc 5 _ rfl
        have c6 := hc 6 _ rfl
        have c7 := hc 7 _ rfl
        have hg := great_any o.k o.v o.i o.b o.n o.pt da ma o.d.length dc o.m.length mc wr
        have hnx : (l.take (i + 1)).all fineO = ((l.take i).all fineO && fineO o) := by rw [List.take_add_one, ho, Option.toList_some, List.all_append]; simp
        have hmem := List.mem_of_getElem? ho
        have hf : (decide (300 < o.d.length) || decide (100 < o.m.length)) = !fineO o := by simp [fineO]
        rw [hf] at hg
        have HG := Lib.hid hg
        have HNX := Lib.hid hnx
        have HALL := Lib.hid hall
        have HMEM := Lib.hid hmem
        have hi0 : (0 : Int) ≤ (i : Int) := by omega
        have hi1 : (i : Int) < (n : Int) := by omega
        clear hc hg hnx hall hmem ho hf
        rw [Nat.add_zero] at c0
        cases hq : fineO o with
        | true =>
          rw [hq] at HG HNX
          have HQ := Lib.hid hq
          clear hq
          go_wp2_with fail
          refine HG.out.mono ?_
          rintro e w2 ⟨rfl, hb2⟩
          go_wp2_with fail
          exact ⟨⟨i + 1, by omega, by go_num, by rw [HNX.out, HALL.out]; rfl, hbw.trans (hb2.mono hbw.size)⟩, by simp [intOf]; omega⟩
        | false =>
          rw [hq] at HG
          have HQ := Lib.hid hq
          clear hq
          go_wp2_with fail
          refine HG.out.mono ?_
          rintro e w2 ⟨rfl, hb2⟩
          go_wp2_with fail
          go_ret
          exact ⟨ret_bool (by rw [eq_comm, List.all_eq_false]; exact ⟨o, HMEM.out, by rw [HQ.out]; simp⟩), hbw.trans (hb2.mono hbw.size)⟩
      · obtain rfl : i = n := by omega
        have htk : l.take i = l := List.take_of_length_le (Nat.le_of_eq HL.out)
        rw [htk] at hall
        have HALL := Lib.hid hall
        clear hall
        go_wp2_with fail
        go_ret
        exact ⟨ret_bool HALL.out.symm, hbw⟩
end Go.Proofs.Ytljbehndnledpaa
namespace Go.Proofs.Ytljbehndnledpaa
open Go.RowKit

def PO.plain56 (o : PO) : Bool := plainO o.k o.v o.i o.b o.n o.d.length o.m
def PO.touch (o : PO) (vol block : Int) : Bool := touchO o.k o.v o.b o.n vol block
/-- Is a block touched ahead of what is not plain? -/
def againL (vol block : Int) : List PO → Bool
  | [] => false
  | o :: t => o.plain56 && (o.touch vol block || againL vol block t)

set_option maxRecDepth 100000 in
set_option maxHeartbeats 4000000 in
theorem again_any (a : Option Addr) (n c at' : Nat) (l : List PO) (vol block : Int) (w : World) (h : Ops w a n l) (hn : n ≤ 1000000) (hat : at' < n) (hfine : ∀ o ∈ l, o.m.length ≤ 1000000000) :
    Calls Try.prog 84 #[.slice a n c, .int .i64 (at' : Int), .int .i64 vol, .int .i64 block] w fun e w' => e = .returned (.bool (againL vol block (l.drop (at' + 1)))) ∧ Below w.heap.size w w' := by
  have H := Lib.hid h
  have HL := Lib.hid h.1
  have s0 : IntKind.i64.wrap ((at' : Int) + 1) = (at' : Int) + 1 := IntWalk.i64_in _ (by omega)
  clear h
  go_enter Try.func84, Try.ntmps84
  go_wp2_with fail
  go_loopw [9] (fun u9 wr => ∃ i : Nat, i ≤ n ∧ u9 = .int .i64 i ∧ againL vol block (l.drop (at' + 1)) = againL vol block (l.drop i) ∧ Below w.heap.size w wr) (fun u9 _ => n - (intOf u9).toNat)
  case atStart => exact ⟨at' + 1, by omega, by go_num, rfl, Below.refl _ _⟩
  case round =>
    obtain ⟨i, hi, rfl, heq, hbw⟩ := hrel
    by_cases hlt : i < n
    · obtain ⟨o, ho⟩ : ∃ o, l[i]? = some o := ⟨_, List.getElem?_eq_getElem (by rw [HL.out]; exact hlt)⟩
      obtain ⟨b, p, dv, mv, rfl, hc, da, dc, ma, mc, rfl, rfl, -, hmi⟩ := (H.out.below hbw (Nat.le_refl _)).2 i o ho
      have hdrop : l.drop i = o :: l.drop (i + 1) := by
        rw [List.drop_eq_getElem_cons (by rw [HL.out]; exact hlt)]
        congr 1
        exact Option.some.inj (by rw [← List.getElem?_eq_getElem]; exact ho)
      have hml := hfine o (List.mem_of_getElem? ho)
      have c0 := hc 0 _ rfl
      have c1 := hc 1 _ rfl
      have c2 := hc 2 _ rfl
      have c3 := hc 3 _ rfl
      have c4 := hc 4 _ rfl
      have c5 := hc 5 _ rfl
      have c6 := hc 6 _ rfl
      have c7 := hc 7 _ rfl
      rw [Nat.add_zero] at c0
      have hp := plain56_any o.k o.v o.i o.b o.n o.pt da ma o.d.length dc o.m.length mc o.m wr hmi hml
      rw [hdrop] at heq
      have ht := touches_any o.k o.v o.i o.b o.n o.pt vol block da ma o.d.length dc o.m.length mc
      have HP := Lib.hid hp
      have HT := Lib.hid ht
      have HEQ := Lib.hid heq
      have hi0 : (0 : Int) ≤ (i : Int) := by omega
      have hi1 : (i : Int) < (n : Int) := by omega
      clear hp ht heq hdrop ho hc hmi
      go_wp2_with fail
      refine HP.out.mono ?_
      rintro e w2 ⟨rfl, hb2⟩
      have hbw2 := hbw.trans (hb2.mono hbw.size)
      cases hq : plainO o.k o.v o.i o.b o.n o.d.length o.m with
      | false =>
        have HQ := Lib.hid hq
        clear hq
        go_wp2_with fail
        go_ret
        exact ⟨ret_bool (by rw [HEQ.out]; show false = (plainO _ _ _ _ _ _ _ && _); rw [HQ.out]; rfl), hbw2⟩
      | true =>
        have HQ := Lib.hid hq
        clear hq
        have hlt2 := World.block_lt_of_cell? _ _ c0
        simp only at hlt2
        have e0 : w2.cell? ⟨b, p + i * 8, none⟩ = some (.int .i64 o.k) := (hb2.cell (p := ⟨b, p + i * 8, none⟩) hlt2).trans c0
        have e1 : w2.cell? ⟨b, p + i * 8 + 1, none⟩ = some (.int .i64 o.v) := (hb2.cell (p := ⟨b, p + i * 8 + 1, none⟩) hlt2).trans c1
        have e2 : w2.cell? ⟨b, p + i * 8 + 2, none⟩ = some (.int .i64 o.i) := (hb2.cell (p := ⟨b, p + i * 8 + 2, none⟩) hlt2).trans c2
        have e3 : w2.cell? ⟨b, p + i * 8 + 3, none⟩ = some (.int .i64 o.b) := (hb2.cell (p := ⟨b, p + i * 8 + 3, none⟩) hlt2).trans c3
        have e4 : w2.cell? ⟨b, p + i * 8 + 4, none⟩ = some (.int .i64 o.n) := (hb2.cell (p := ⟨b, p + i * 8 + 4, none⟩) hlt2).trans c4
        have e5 : w2.cell? ⟨b, p + i * 8 + 5, none⟩ = some (.int .u64 o.pt) := (hb2.cell (p := ⟨b, p + i * 8 + 5, none⟩) hlt2).trans c5
        have e6 : w2.cell? ⟨b, p + i * 8 + 6, none⟩ = some (.slice da o.d.length dc) := (hb2.cell (p := ⟨b, p + i * 8 + 6, none⟩) hlt2).trans c6
        have e7 : w2.cell? ⟨b, p + i * 8 + 7, none⟩ = some (.slice ma o.m.length mc) := (hb2.cell (p := ⟨b, p + i * 8 + 7, none⟩) hlt2).trans c7
        clear c0 c1 c2 c3 c4 c5 c6 c7
        go_wp2_with fail
        refine (HT.out w2).mono ?_
        rintro e w3 ⟨rfl, hb3⟩
        have hbw3 := hbw2.trans (hb3.mono hbw2.size)
        cases ht : touchO o.k o.v o.b o.n vol block with
        | true =>
          have HTT := Lib.hid ht
          clear ht
          go_wp2_with fail
          go_ret
          exact ⟨ret_bool (by rw [HEQ.out]; show true = (plainO _ _ _ _ _ _ _ && (touchO _ _ _ _ _ _ || _)); rw [HQ.out, HTT.out]; rfl), hbw3⟩
        | false =>
          have HTT := Lib.hid ht
          clear ht
          go_wp2_with fail
          exact ⟨⟨i + 1, by omega, by go_num, by rw [HEQ.out]; show (plainO _ _ _ _ _ _ _ && (touchO _ _ _ _ _ _ || _)) = _; rw [HQ.out, HTT.out]; rfl, hbw3⟩, by simp [intOf]; omega⟩
    · obtain rfl : i = n := by omega
      have hnil : l.drop i = [] := List.drop_eq_nil_of_le (Nat.le_of_eq HL.out)
      rw [hnil] at heq
      go_wp2_with fail
      go_ret
      exact ⟨ret_bool (by rw [heq]; rfl), hbw⟩
end Go.Proofs.Ytljbehndnledpaa
