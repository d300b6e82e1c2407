/- The walks of script.Parse and yesteryearref29.Parse. Conditions: those of each theorem. Printed by wip/mkparse.py. -/
import Derived.Test.YtljbehndnledpaaOpList
import Derived.Test.YtljbehndnledpaaRefRead29
namespace Go.Proofs.Ytljbehndnledpaa
open Go.RowKit

/-- A line that counts for nothing. -/
def skipL : List (List UInt8) → Bool
  | [] => true
  | w :: _ => w.head? == some 35
def parseFrom : Nat → List (List UInt8) → List PO → List PO × Nat × Nat
  | _, [], acc => (acc, 0, 0)
  | i, l :: r, acc => if skipL (wordsL l) then parseFrom (i + 1) r acc else match readO (wordsL l) with | none => ([], i + 1, 21) | some o => parseFrom (i + 1) r (acc ++ [o])
/-- The operations of a text, the line in which one is wrong, and what is. -/
def parseO (s : List UInt8) : List PO × Nat × Nat := if 16384 < s.length then ([], 0, 12) else parseFrom 0 (linesL s) []
theorem parseFrom_skip (L : List (List UInt8)) (i : Nat) (l : List UInt8) (acc : List PO) (h : L[i]? = some l) (hs : skipL (wordsL l) = true) : parseFrom i (L.drop i) acc = parseFrom (i + 1) (L.drop (i + 1)) acc := by
  obtain ⟨h1, e1⟩ := List.getElem?_eq_some_iff.1 h
  rw [List.drop_eq_getElem_cons h1, e1, parseFrom, if_pos hs]
theorem parseFrom_some (L : List (List UInt8)) (i : Nat) (l : List UInt8) (acc : List PO) (o : PO) (h : L[i]? = some l) (hs : skipL (wordsL l) = false) (hr : readO (wordsL l) = some o) : parseFrom i (L.drop i) acc = parseFrom (i + 1) (L.drop (i + 1)) (acc ++ [o]) := by
  obtain ⟨h1, e1⟩ := List.getElem?_eq_some_iff.1 h
  rw [List.drop_eq_getElem_cons h1, e1, parseFrom, if_neg (by rw [hs]; simp), hr]
theorem parseFrom_none (L : List (List UInt8)) (i : Nat) (l : List UInt8) (acc : List PO) (h : L[i]? = some l) (hs : skipL (wordsL l) = false) (hr : readO (wordsL l) = none) : parseFrom i (L.drop i) acc = ([], i + 1, 21) := by
  obtain ⟨h1, e1⟩ := List.getElem?_eq_some_iff.1 h
  rw [List.drop_eq_getElem_cons h1, e1, parseFrom, if_neg (by rw [hs]; simp), hr]
theorem parseFrom_end (L : List (List UInt8)) (i : Nat) (acc : List PO) (h : L.length ≤ i) : parseFrom i (L.drop i) acc = (acc, 0, 0) := by
  rw [List.drop_eq_nil_of_le h, parseFrom]
theorem lines_each (l : List UInt8) : (∀ y ∈ linesL l, y.length ≤ l.length) ∧ (linesL l).length ≤ l.length + 1 := by
  have h1 := pieces_each 10 l
  have h2 := pieces_len 10 l
  unfold linesL
  split
  · refine ⟨fun y hy => h1 y (by unfold pieces; exact List.mem_append_left _ hy), ?_⟩
    have := (fwd_len 10 l).1; omega
  · exact ⟨h1, h2⟩
theorem words_ne (l : List UInt8) : ∀ y ∈ wordsL l, 0 < y.length := by
  intro y hy
  have := (List.mem_filter.1 hy).2
  cases y with
  | nil => simp at this
  | cons => simp

theorem OwnOps.keepsS {w w' : World} {B B2 : Nat} {v v2 : Value} {l : List PO} {L : List (List UInt8)} (h : OwnOps w B v l) (h2 : OwnS w B2 v2 L) (hg : w.grownBy w' v.ownBlock) : OwnS w' B2 v2 L := by
  obtain ⟨ps, -, h1, -⟩ := h
  exact World.ownsRow.kept h2 hg (owns_apart h2 h1 (by decide))

/-- What Parse comes to. -/
def ParseEnds (p : List PO × Nat × Nat) (w : World) (e : Ending) (w' : World) : Prop :=
  Below w.heap.size w w' ∧ ∃ v, e = .returned (.tuple #[v, .int .i64 (p.2.1 : Int), .int .i64 (p.2.2 : Int)]) ∧ OwnOps w' w.heap.size v p.1

set_option maxRecDepth 100000 in
set_option maxHeartbeats 16000000 in
theorem parse_any (s : ByteArray) (w : World) (hs : s.size ≤ 100000) :
    Calls Try.prog 56 #[.string s] w (ParseEnds (parseO s.data.toList) w) := by
  obtain ⟨p, hp⟩ : ∃ p, p = parseO s.data.toList := ⟨_, rfl⟩
  rw [← hp]
  rw [parseO, bytes_len] at hp
  by_cases hbig : 16384 < s.size
  · rw [if_pos hbig] at hp
    subst hp
    have hbi : (16384 : Int) < (s.size : Int) := by omega
    go_enter Try.func56, Try.ntmps56
    go_wp2_with fail
    go_ret3
    exact ⟨Below.refl _ _, _, rfl, OwnOps.nil _ _⟩
  · rw [if_neg hbig] at hp
    have hbi : ¬ (16384 : Int) < (s.size : Int) := by omega
    have hla := fun w => lines_any s w (by omega)
    obtain ⟨hle, hll⟩ := lines_each s.data.toList
    rw [bytes_len] at hle hll
    generalize linesL s.data.toList = L at *
    have HP := Lib.hid hp
    have HLA := Lib.hid hla
    have HLE := Lib.hid hle
    clear hp hla hle
    go_enter Try.func56, Try.ntmps56
    go_wp2_with fail
    refine (HLA.out _).mono ?_
    rintro e w1 ⟨v, rfl, hown, hb1⟩
    obtain ⟨a, cap, rfl, -⟩ := hown.ss
    have HOL := Lib.hid hown
    have hLl : (L.length : Int) ≤ 100001 := by omega
    clear hown
    go_wp2_with fail
    go_loopw [5, 17] (fun uacc ui wr => ∃ (i : Nat) (acc : List PO), i ≤ L.length ∧ ui = .int .i64 i ∧ OwnOps wr w.heap.size uacc acc ∧ acc.length ≤ i ∧ Hid (p = parseFrom i (L.drop i) acc) ∧ OwnS wr w.heap.size (.slice a L.length cap) L ∧ Below w.heap.size w wr) (fun _ ui _ => L.length - (intOf ui).toNat)
    case atStart => exact ⟨0, [], by omega, rfl, OwnOps.nil _ _, by simp, HP, HOL.out, hb1⟩
    case round =>
      obtain ⟨i, acc, hi, rfl, hown, hal, HPI, hol, hbw⟩ := hrel
      by_cases hlt : i < L.length
      · obtain ⟨l, hl⟩ : ∃ l, L[i]? = some l := ⟨_, List.getElem?_eq_getElem hlt⟩
        have hll2 := HLE.out l (List.mem_of_getElem? hl)
        obtain ⟨a2, cap2, e2, hss⟩ := hol.ss
        simp only [Value.slice.injEq] at e2
        obtain ⟨rfl, -, rfl⟩ := e2
        obtain ⟨b, o, rfl, hc⟩ := hss.at (by omega)
        have hcl : wr.cell? ⟨b, o + i, none⟩ = some (.string ⟨l.toArray⟩) := hc i (sv (mkS l)) (by rw [List.map_map, List.getElem?_map, hl]; rfl)
        have HOL := Lib.hid hol
        have hi0 : (0 : Int) ≤ (i : Int) := by omega
        have hi1 : (i : Int) < (L.length : Int) := by omega
        have hwds := words_any ⟨l.toArray⟩ wr (by show l.length ≤ _; omega)
        have hrdd := fun W => scriptRead_any ⟨l.toArray⟩ W (by show l.length ≤ _; omega)
        have hld : (⟨l.toArray⟩ : ByteArray).data.toList = l := by simp
        rw [hld] at hwds hrdd
        have hskip := parseFrom_skip L i l acc hl
        have hsome := fun o => parseFrom_some L i l acc o hl
        have hnone := parseFrom_none L i l acc hl
        rw [← HPI.out] at hskip hsome hnone
        have hwne := words_ne l
        generalize wordsL l = W at *
        have HWD := Lib.hid hwds
        have HRD := Lib.hid hrdd
        have HOW := Lib.hid hown
        have hBw : w.heap.size ≤ wr.heap.size := hbw.size
        clear hwds hrdd hc hl hown hss hol
        cases W with
        | nil =>
          have HN := Lib.hid (hskip rfl)
          clear hskip hsome hnone
          go_wp2_with fail
          refine HWD.out.mono ?_
          rintro e w2 ⟨vv, rfl, hov, hb2⟩
          obtain ⟨va, vcap, rfl, hvs⟩ := hov.ss
          clear hov hvs
          go_wp2_with fail
          exact ⟨⟨i + 1, acc, by omega, by go_num, HOW.out.stays hb2 (Nat.le_refl _) hBw, by omega, HN, HOL.out.stays hb2 (Nat.le_refl _), hbw.trans (hb2.mono hbw.size)⟩, by simp [intOf]; omega⟩
        | cons x r =>
          have hx0 := hwne x (List.mem_cons_self ..)
          obtain ⟨c, x', rfl⟩ : ∃ c x', x = c :: x' := by
            cases x with
            | nil => simp at hx0
            | cons c x' => exact ⟨c, x', rfl⟩
          have hn1 : (((r.length + 1 : Nat) : Int) == 0) = false := by rw [beq_eq_false_iff_ne]; omega
          have hn2 : ((r.length : Int) + 1 == 0) = false := by rw [beq_eq_false_iff_ne]; omega
          have hn3 : (0 : Int) < (r.length : Int) + 1 := by omega
          obtain ⟨z, hz⟩ : ∃ z : Int, z = (c.toNat : Int) := ⟨_, rfl⟩
          have hcb : ∀ h : 0 < (⟨(c :: x').toArray⟩ : ByteArray).size, (((⟨(c :: x').toArray⟩ : ByteArray)[0]'h).toNat : Int) = z := fun h => by rw [byteAt (c :: x') 0 c rfl, hz]
          have hsk : skipL ((c :: x') :: r) = decide (z = 35) := by
            show ((c :: x').head? == some 35) = _
            rw [List.head?_cons]
            have : (some c == some (35 : UInt8)) = (c == 35) := by simp
            rw [this, hz]
            by_cases h : c = 35
            · subst h; rfl
            · have : ¬ (c.toNat : Int) = 35 := fun e => h (UInt8.toNat_inj.1 (by show c.toNat = 35; omega))
              simp [h, this]
          generalize hX : c :: x' = X at *
          have hXl : 0 < X.length := by rw [← hX]; simp
          clear hX hz hwne hx0
          by_cases hz35 : z = 35
          · have hzb : (z == 35) = true := by rw [beq_iff_eq]; exact hz35
            have HN := Lib.hid (hskip (by rw [hsk]; simpa using hz35))
            clear hskip hsome hnone hsk hz35
            go_wp2_with fail
            refine HWD.out.mono ?_
            rintro e w2 ⟨vv, rfl, hov, hb2⟩
            obtain ⟨va, vcap, rfl, hvs⟩ := hov.ss
            obtain ⟨vb, vo, rfl, hvc⟩ := hvs.at (by simp)
            have hv0 : w2.cell? ⟨vb, vo, none⟩ = some (.string ⟨X.toArray⟩) := hvc 0 _ rfl
            clear hov hvs hvc
            go_wp2_with fail
            exact ⟨⟨i + 1, acc, by omega, by go_num, HOW.out.stays hb2 (Nat.le_refl _) hBw, by omega, HN, HOL.out.stays hb2 (Nat.le_refl _), hbw.trans (hb2.mono hbw.size)⟩, by simp [intOf]; omega⟩
          · have hzb : (z == 35) = false := by rw [beq_eq_false_iff_ne]; exact hz35
            have hsk2 : skipL (X :: r) = false := by rw [hsk]; simpa using hz35
            have HSO := Lib.hid fun o => hsome o hsk2
            have HNO := Lib.hid (hnone hsk2)
            clear hskip hsome hnone hsk hsk2 hz35
            go_wp2_with fail
            refine HWD.out.mono ?_
            rintro e w2 ⟨vv, rfl, hov, hb2⟩
            obtain ⟨va, vcap, rfl, hvs⟩ := hov.ss
            obtain ⟨vb, vo, rfl, hvc⟩ := hvs.at (by simp)
            have hv0 : w2.cell? ⟨vb, vo, none⟩ = some (.string ⟨X.toArray⟩) := hvc 0 _ rfl
            have hO2 := HOW.out.stays hb2 (Nat.le_refl _) hBw
            have HOL2 := Lib.hid (HOL.out.stays hb2 (Nat.le_refl _))
            have hbw2 := hbw.trans (hb2.mono hbw.size)
            have HO2 := Lib.hid hO2
            have hb1lt : b < w2.heap.size := by have := World.block_lt_of_cell? _ _ hcl; have := hb2.size; simp at *; omega
            have hcl2 : w2.cell? ⟨b, o + i, none⟩ = some (.string ⟨l.toArray⟩) := by rw [hb2.cell (World.block_lt_of_cell? _ _ hcl)]; exact hcl
            clear hov hvs hvc hO2
            go_wp2_with fail
            refine (HRD.out _).mono ?_
            rintro e w3 ⟨hb3, ⟨hno, rfl⟩ | ⟨q, dv, mv, hq, rfl, hqd, hqm⟩⟩
            · have hfin := HNO.out hno
              subst hfin
              rw [show opV PO.zero (.slice none 0 0) (.slice none 0 0) = .agg #[.int .i64 0, .int .i64 0, .int .i64 0, .int .i64 0, .int .i64 0, .int .u64 0, .slice none 0 0, .slice none 0 0] from rfl]
              have hw1 : IntKind.i64.wrap ((i : Int) + 1) = (i : Int) + 1 := IntWalk.i64_in _ (by omega)
              have hbF : Below w.heap.size w w3 := hbw2.trans (hb3.mono hbw2.size)
              clear hno hv0 hcl hcl2
              go_wp2_with fail
              go_ret3
              exact ⟨hbF.alloc (by have := hbF.size; omega) _, _, rfl, OwnOps.nil _ _⟩
            · have HP2 := Lib.hid (HSO.out q hq)
              obtain ⟨pda, pdc, pma, pmc, rfl, rfl, hqds, hqms⟩ := own_op hqd hqm
              rw [show opV q (.slice pda q.d.length pdc) (.slice pma q.m.length pmc) = .agg #[.int .i64 q.k, .int .i64 q.v, .int .i64 q.i, .int .i64 q.b, .int .i64 q.n, .int .u64 q.pt, .slice pda q.d.length pdc, .slice pma q.m.length pmc] from rfl]
              have hb4 : Below w3.heap.size w3 (w3.alloc (.cells #[.int .i64 q.k, .int .i64 q.v, .int .i64 q.i, .int .i64 q.b, .int .i64 q.n, .int .u64 q.pt, .slice pda q.d.length pdc, .slice pma q.m.length pmc] 80)) := (Below.refl _ _).alloc (Nat.le_refl _) _
              have hbF : Below w.heap.size w (w3.alloc (.cells #[.int .i64 q.k, .int .i64 q.v, .int .i64 q.i, .int .i64 q.b, .int .i64 q.n, .int .u64 q.pt, .slice pda q.d.length pdc, .slice pma q.m.length pmc] 80)) := (hbw2.trans (hb3.mono hbw2.size)).alloc (by have := hbw2.size; have := hb3.size; omega) _
              have hol4 := (HOL2.out.stays hb3 (Nat.le_refl _)).stays hb4 (Nat.le_refl _)
              have hO4 := (HO2.out.stays hb3 (Nat.le_refl _) hbw2.size).stays hb4 (Nat.le_refl _) (by have := hbw2.size; have := hb3.size; omega)
              have hfar : OpFar (w3.alloc (.cells #[.int .i64 q.k, .int .i64 q.v, .int .i64 q.i, .int .i64 q.b, .int .i64 q.n, .int .u64 q.pt, .slice pda q.d.length pdc, .slice pma q.m.length pmc] 80)) w.heap.size q (.slice pda q.d.length pdc) (.slice pma q.m.length pmc) := OpFar.own (ownsRow_base (ownsRow_below hqd hb4 (Nat.le_refl _)) hbw2.size) (ownsRow_base (ownsRow_below hqm hb4 (Nat.le_refl _)) hbw2.size)
              obtain ⟨v', w', hap, hown', hgr⟩ := hO4.push q hfar (by omega) hbF.size
              rw [show (w3.alloc (.cells #[.int .i64 q.k, .int .i64 q.v, .int .i64 q.i, .int .i64 q.b, .int .i64 q.n, .int .u64 q.pt, .slice pda q.d.length pdc, .slice pma q.m.length pmc] 80)).heap.size = w3.heap.size + 1 by simp] at hap
              have hbF' := hO4.below hbF hgr (Nat.le_refl _) hbF.size
              have HOL' := Lib.hid (hO4.keepsS hol4 hgr)
              have HO' := Lib.hid hown'
              clear hol4 hqd hqm hqds hqms hO4 hfar hown' hq hgr hv0 hcl hcl2
              go_wp2_with (at_builtin; refine wpList_append_run rfl _ _ _ rfl hap ?_)
              exact ⟨⟨i + 1, acc ++ [q], by omega, by go_num, HO'.out, by simp; omega, HP2, HOL'.out, hbF'⟩, by simp [intOf]; omega⟩
      · have hfin := parseFrom_end L i acc (by omega)
        have hpp := HPI.out
        rw [hfin] at hpp
        subst hpp
        go_wp2_with fail
        go_ret3
        exact ⟨hbw, _, rfl, hown⟩

set_option maxRecDepth 100000 in
set_option maxHeartbeats 16000000 in
theorem refParse_any (s : ByteArray) (w : World) (hs : s.size ≤ 100000) :
    Calls Try.prog 57 #[.string s] w (ParseEnds (parseO s.data.toList) w) := by
  obtain ⟨p, hp⟩ : ∃ p, p = parseO s.data.toList := ⟨_, rfl⟩
  rw [← hp]
  rw [parseO, bytes_len] at hp
  by_cases hbig : 16384 < s.size
  · rw [if_pos hbig] at hp
    subst hp
    have hbi : (16384 : Int) < (s.size : Int) := by omega
    go_enter Try.func57, Try.ntmps57
    go_wp2_with fail
    go_ret3
    exact ⟨Below.refl _ _, _, rfl, OwnOps.nil _ _⟩
  · rw [if_neg hbig] at hp
    have hbi : ¬ (16384 : Int) < (s.size : Int) := by omega
    have hla := fun w => refLines_any s w (by omega)
    obtain ⟨hle, hll⟩ := lines_each s.data.toList
    rw [bytes_len] at hle hll
    generalize linesL s.data.toList = L at *
    have HP := Lib.hid hp
    have HLA := Lib.hid hla
    have HLE := Lib.hid hle
    clear hp hla hle
    go_enter Try.func57, Try.ntmps57
    go_wp2_with fail
    refine (HLA.out _).mono ?_
    rintro e w1 ⟨v, rfl, hown, hb1⟩
    obtain ⟨a, cap, rfl, -⟩ := hown.ss
    have HOL := Lib.hid hown
    have hLl : (L.length : Int) ≤ 100001 := by omega
    clear hown
    go_wp2_with fail
    go_loopw [5, 7] (fun uacc ui wr => ∃ (i : Nat) (acc : List PO), i ≤ L.length ∧ ui = .int .i64 i ∧ OwnOps wr w.heap.size uacc acc ∧ acc.length ≤ i ∧ Hid (p = parseFrom i (L.drop i) acc) ∧ OwnS wr w.heap.size (.slice a L.length cap) L ∧ Below w.heap.size w wr) (fun _ ui _ => L.length - (intOf ui).toNat)
    case atStart => exact ⟨0, [], by omega, rfl, OwnOps.nil _ _, by simp, HP, HOL.out, hb1⟩
    case round =>
      obtain ⟨i, acc, hi, rfl, hown, hal, HPI, hol, hbw⟩ := hrel
      by_cases hlt : i < L.length
      · obtain ⟨l, hl⟩ : ∃ l, L[i]? = some l := ⟨_, List.getElem?_eq_getElem hlt⟩
        have hll2 := HLE.out l (List.mem_of_getElem? hl)
        obtain ⟨a2, cap2, e2, hss⟩ := hol.ss
        simp only [Value.slice.injEq] at e2
        obtain ⟨rfl, -, rfl⟩ := e2
        obtain ⟨b, o, rfl, hc⟩ := hss.at (by omega)
        have hcl : wr.cell? ⟨b, o + i, none⟩ = some (.string ⟨l.toArray⟩) := hc i (sv (mkS l)) (by rw [List.map_map, List.getElem?_map, hl]; rfl)
        have HOL := Lib.hid hol
        have hi0 : (0 : Int) ≤ (i : Int) := by omega
        have hi1 : (i : Int) < (L.length : Int) := by omega
        have hwds := refWords_any ⟨l.toArray⟩ wr (by show l.length ≤ _; omega)
        have hrdd := fun W => refReadO_any ⟨l.toArray⟩ W (by show l.length ≤ _; omega)
        have hld : (⟨l.toArray⟩ : ByteArray).data.toList = l := by simp
        rw [hld] at hwds hrdd
        have hskip := parseFrom_skip L i l acc hl
        have hsome := fun o => parseFrom_some L i l acc o hl
        have hnone := parseFrom_none L i l acc hl
        rw [← HPI.out] at hskip hsome hnone
        have hwne := words_ne l
        generalize wordsL l = W at *
        have HWD := Lib.hid hwds
        have HRD := Lib.hid hrdd
        have HOW := Lib.hid hown
        have hBw : w.heap.size ≤ wr.heap.size := hbw.size
        clear hwds hrdd hc hl hown hss hol
        cases W with
        | nil =>
          have HN := Lib.hid (hskip rfl)
          clear hskip hsome hnone
          go_wp2_with fail
          refine HWD.out.mono ?_
          rintro e w2 ⟨vv, rfl, hov, hb2⟩
          obtain ⟨va, vcap, rfl, hvs⟩ := hov.ss
          clear hov hvs
          go_wp2_with fail
          exact ⟨⟨i + 1, acc, by omega, by go_num, HOW.out.stays hb2 (Nat.le_refl _) hBw, by omega, HN, HOL.out.stays hb2 (Nat.le_refl _), hbw.trans (hb2.mono hbw.size)⟩, by simp [intOf]; omega⟩
        | cons x r =>
          have hx0 := hwne x (List.mem_cons_self ..)
          obtain ⟨c, x', rfl⟩ : ∃ c x', x = c :: x' := by
            cases x with
            | nil => simp at hx0
            | cons c x' => exact ⟨c, x', rfl⟩
          have hn1 : (((r.length + 1 : Nat) : Int) == 0) = false := by rw [beq_eq_false_iff_ne]; omega
          have hn2 : ((r.length : Int) + 1 == 0) = false := by rw [beq_eq_false_iff_ne]; omega
          have hn3 : (0 : Int) < (r.length : Int) + 1 := by omega
          obtain ⟨z, hz⟩ : ∃ z : Int, z = (c.toNat : Int) := ⟨_, rfl⟩
          have hcb : ∀ h : 0 < (⟨(c :: x').toArray⟩ : ByteArray).size, (((⟨(c :: x').toArray⟩ : ByteArray)[0]'h).toNat : Int) = z := fun h => by rw [byteAt (c :: x') 0 c rfl, hz]
          have hsk : skipL ((c :: x') :: r) = decide (z = 35) := by
            show ((c :: x').head? == some 35) = _
            rw [List.head?_cons]
            have : (some c == some (35 : UInt8)) = (c == 35) := by simp
            rw [this, hz]
            by_cases h : c = 35
            · subst h; rfl
            · have : ¬ (c.toNat : Int) = 35 := fun e => h (UInt8.toNat_inj.1 (by show c.toNat = 35; omega))
              simp [h, this]
          generalize hX : c :: x' = X at *
          have hXl : 0 < X.length := by rw [← hX]; simp
          clear hX hz hwne hx0
          by_cases hz35 : z = 35
          · have hzb : (z == 35) = true := by rw [beq_iff_eq]; exact hz35
            have HN := Lib.hid (hskip (by rw [hsk]; simpa using hz35))
            clear hskip hsome hnone hsk hz35
            go_wp2_with fail
            refine HWD.out.mono ?_
            rintro e w2 ⟨vv, rfl, hov, hb2⟩
            obtain ⟨va, vcap, rfl, hvs⟩ := hov.ss
            obtain ⟨vb, vo, rfl, hvc⟩ := hvs.at (by simp)
            have hv0 : w2.cell? ⟨vb, vo, none⟩ = some (.string ⟨X.toArray⟩) := hvc 0 _ rfl
            clear hov hvs hvc
            go_wp2_with fail
            exact ⟨⟨i + 1, acc, by omega, by go_num, HOW.out.stays hb2 (Nat.le_refl _) hBw, by omega, HN, HOL.out.stays hb2 (Nat.le_refl _), hbw.trans (hb2.mono hbw.size)⟩, by simp [intOf]; omega⟩
          · have hzb : (z == 35) = false := by rw [beq_eq_false_iff_ne]; exact hz35
            have hsk2 : skipL (X :: r) = false := by rw [hsk]; simpa using hz35
            have HSO := Lib.hid fun o => hsome o hsk2
            have HNO := Lib.hid (hnone hsk2)
            clear hskip hsome hnone hsk hsk2 hz35
            go_wp2_with fail
            refine HWD.out.mono ?_
            rintro e w2 ⟨vv, rfl, hov, hb2⟩
            obtain ⟨va, vcap, rfl, hvs⟩ := hov.ss
            obtain ⟨vb, vo, rfl, hvc⟩ := hvs.at (by simp)
            have hv0 : w2.cell? ⟨vb, vo, none⟩ = some (.string ⟨X.toArray⟩) := hvc 0 _ rfl
            have hO2 := HOW.out.stays hb2 (Nat.le_refl _) hBw
            have HOL2 := Lib.hid (HOL.out.stays hb2 (Nat.le_refl _))
            have hbw2 := hbw.trans (hb2.mono hbw.size)
            have HO2 := Lib.hid hO2
            have hb1lt : b < w2.heap.size := by have := World.block_lt_of_cell? _ _ hcl; have := hb2.size; simp at *; omega
            have hcl2 : w2.cell? ⟨b, o + i, none⟩ = some (.string ⟨l.toArray⟩) := by rw [hb2.cell (World.block_lt_of_cell? _ _ hcl)]; exact hcl
            clear hov hvs hvc hO2
            go_wp2_with fail
            refine (HRD.out _).mono ?_
            rintro e w3 ⟨hb3, ⟨hno, rfl⟩ | ⟨q, dv, mv, hq, rfl, hqd, hqm⟩⟩
            · have hfin := HNO.out hno
              subst hfin
              rw [show opV PO.zero (.slice none 0 0) (.slice none 0 0) = .agg #[.int .i64 0, .int .i64 0, .int .i64 0, .int .i64 0, .int .i64 0, .int .u64 0, .slice none 0 0, .slice none 0 0] from rfl]
              have hw1 : IntKind.i64.wrap ((i : Int) + 1) = (i : Int) + 1 := IntWalk.i64_in _ (by omega)
              have hbF : Below w.heap.size w w3 := hbw2.trans (hb3.mono hbw2.size)
              clear hno hv0 hcl hcl2
              go_wp2_with fail
              go_ret3
              exact ⟨hbF.alloc (by have := hbF.size; omega) _, _, rfl, OwnOps.nil _ _⟩
            · have HP2 := Lib.hid (HSO.out q hq)
              obtain ⟨pda, pdc, pma, pmc, rfl, rfl, hqds, hqms⟩ := own_op hqd hqm
              rw [show opV q (.slice pda q.d.length pdc) (.slice pma q.m.length pmc) = .agg #[.int .i64 q.k, .int .i64 q.v, .int .i64 q.i, .int .i64 q.b, .int .i64 q.n, .int .u64 q.pt, .slice pda q.d.length pdc, .slice pma q.m.length pmc] from rfl]
              have hb4 : Below w3.heap.size w3 (w3.alloc (.cells #[.int .i64 q.k, .int .i64 q.v, .int .i64 q.i, .int .i64 q.b, .int .i64 q.n, .int .u64 q.pt, .slice pda q.d.length pdc, .slice pma q.m.length pmc] 80)) := (Below.refl _ _).alloc (Nat.le_refl _) _
              have hbF : Below w.heap.size w (w3.alloc (.cells #[.int .i64 q.k, .int .i64 q.v, .int .i64 q.i, .int .i64 q.b, .int .i64 q.n, .int .u64 q.pt, .slice pda q.d.length pdc, .slice pma q.m.length pmc] 80)) := (hbw2.trans (hb3.mono hbw2.size)).alloc (by have := hbw2.size; have := hb3.size; omega) _
              have hol4 := (HOL2.out.stays hb3 (Nat.le_refl _)).stays hb4 (Nat.le_refl _)
              have hO4 := (HO2.out.stays hb3 (Nat.le_refl _) hbw2.size).stays hb4 (Nat.le_refl _) (by have := hbw2.size; have := hb3.size; omega)
              have hfar : OpFar (w3.alloc (.cells #[.int .i64 q.k, .int .i64 q.v, .int .i64 q.i, .int .i64 q.b, .int .i64 q.n, .int .u64 q.pt, .slice pda q.d.length pdc, .slice pma q.m.length pmc] 80)) w.heap.size q (.slice pda q.d.length pdc) (.slice pma q.m.length pmc) := OpFar.own (ownsRow_base (ownsRow_below hqd hb4 (Nat.le_refl _)) hbw2.size) (ownsRow_base (ownsRow_below hqm hb4 (Nat.le_refl _)) hbw2.size)
              obtain ⟨v', w', hap, hown', hgr⟩ := hO4.push q hfar (by omega) hbF.size
              rw [show (w3.alloc (.cells #[.int .i64 q.k, .int .i64 q.v, .int .i64 q.i, .int .i64 q.b, .int .i64 q.n, .int .u64 q.pt, .slice pda q.d.length pdc, .slice pma q.m.length pmc] 80)).heap.size = w3.heap.size + 1 by simp] at hap
              have hbF' := hO4.below hbF hgr (Nat.le_refl _) hbF.size
              have HOL' := Lib.hid (hO4.keepsS hol4 hgr)
              have HO' := Lib.hid hown'
              clear hol4 hqd hqm hqds hqms hO4 hfar hown' hq hgr hv0 hcl hcl2
              go_wp2_with (at_builtin; refine wpList_append_run rfl _ _ _ rfl hap ?_)
              exact ⟨⟨i + 1, acc ++ [q], by omega, by go_num, HO'.out, by simp; omega, HP2, HOL'.out, hbF'⟩, by simp [intOf]; omega⟩
      · have hfin := parseFrom_end L i acc (by omega)
        have hpp := HPI.out
        rw [hfin] at hpp
        subst hpp
        go_wp2_with fail
        go_ret3
        exact ⟨hbw, _, rfl, hown⟩
end Go.Proofs.Ytljbehndnledpaa
