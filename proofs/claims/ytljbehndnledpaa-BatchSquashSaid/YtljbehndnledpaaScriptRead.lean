/- The walk of script.Read: the operation of a line, or none. Conditions: those of each theorem. -/
import Derived.Test.YtljbehndnledpaaScriptSet
import Derived.Test.YtljbehndnledpaaShelfRepeat
import Derived.Test.YtljbehndnledpaaWordsLaw
namespace Go.Proofs.Ytljbehndnledpaa
open Go.RowKit

/-- An operation as a value. -/
def opV (o : PO) (dv mv : Value) : Value := .agg #[.int .i64 o.k, .int .i64 o.v, .int .i64 o.i, .int .i64 o.b, .int .i64 o.n, .int .u64 o.pt, dv, mv]
def ReadEnds (l : List (List UInt8)) (w : World) (e : Ending) (w' : World) : Prop :=
  Below w.heap.size w w' ∧ ((readO l = none ∧ e = .returned (.tuple #[opV PO.zero (.slice none 0 0) (.slice none 0 0), .int .i64 21])) ∨
    ∃ o dv mv, readO l = some o ∧ e = .returned (.tuple #[opV o dv mv, .int .i64 0]) ∧ w'.ownsRow w.heap.size 5 1 dv o.d.length (cellsOfB o.d) ∧ w'.ownsRow w.heap.size 3 1 mv o.m.length (o.m.map (.int .i64)))

theorem info80 : (Try.prog.info? 80).map (·.size) = some 8 := by kernel_rfl
theorem pieces_each (c : UInt8) (l : List UInt8) : ∀ y ∈ pieces c l, y.length ≤ l.length := by
  have key : (∀ y ∈ (fwd c l).1, y.length ≤ l.length) ∧ (fwd c l).2.length ≤ l.length := by
    refine snoc_ind (P := fun l => (∀ y ∈ (fwd c l).1, y.length ≤ l.length) ∧ (fwd c l).2.length ≤ l.length) (by simp [fwd]) (fun l x ih => ?_) l
    rw [fwd_snoc, List.length_append, List.length_singleton]
    unfold pstep
    split
    · refine ⟨fun y hy => ?_, by simp⟩
      rcases List.mem_append.1 hy with hy | hy
      · have := ih.1 y hy; omega
      · rw [List.mem_singleton.1 hy]; have := ih.2; omega
    · refine ⟨fun y hy => ?_, by simp only [List.length_append, List.length_singleton]; omega⟩
      have := ih.1 y hy; omega
  intro y hy
  rcases List.mem_append.1 hy with hy | hy
  · exact key.1 y hy
  · rw [List.mem_singleton.1 hy]; exact key.2
theorem setAll_len : ∀ (cs : List UInt8) (ws : List (List UInt8)) (o p : PO), setAll o cs ws = some p → cs.length = ws.length
  | [], ws, o, p, h => by rw [(setAll_nil h).1]; rfl
  | c :: cs, ws, o, p, h => by
    obtain ⟨w, ws', q, rfl, -, h2⟩ := setAll_cons h
    rw [List.length_cons, List.length_cons, setAll_len cs ws' q p h2]
theorem setAll_take : ∀ (cs : List UInt8) (ws : List (List UInt8)) (o q : PO) (j : Nat) (c : UInt8) (y : List UInt8), setAll o (cs.take j) (ws.take j) = some q → cs[j]? = some c → ws[j]? = some y →
    setAll o (cs.take (j + 1)) (ws.take (j + 1)) = q.set c y ∧ (q.set c y = none → setAll o cs ws = none)
  | [], _, _, _, _, _, _, _, hc, _ => by simp at hc
  | _ :: _, [], _, _, _, _, _, _, _, hy => by simp at hy
  | c0 :: cs, y0 :: ws, o, q, 0, c, y, h, hc, hy => by
    simp [setAll] at h hc hy
    subst h hc hy
    simp only [List.take_succ_cons, List.take_zero, setAll]
    cases o.set c0 y0 with
    | none => simp
    | some p => simp
  | c0 :: cs, y0 :: ws, o, q, j + 1, c, y, h, hc, hy => by
    simp only [List.take_succ_cons, setAll] at h ⊢
    cases hs : o.set c0 y0 with
    | none => rw [hs] at h; simp at h
    | some p =>
      rw [hs] at h
      simp only at h
      simp only [List.getElem?_cons_succ] at hc hy
      exact setAll_take cs ws p q j c y h hc hy
theorem set_mlen {o q : PO} {c : UInt8} {y : List UInt8} (h : o.set c y = some q) : q.m.length ≤ o.m.length + 1 := by
  unfold PO.set at h
  repeat' split at h
  all_goals first | (cases h; simp) | cases h
theorem letters_ok (k : Int) (n : Nat) (c : UInt8) (h : c ∈ lettersL k n) : c = 118 ∨ c = 105 ∨ c = 98 ∨ c = 110 ∨ c = 112 ∨ c = 100 ∨ c = 109 := by
  unfold lettersL at h
  split at h
  · have := List.eq_of_mem_replicate h
    simp [this]
  · exact looks_letters k c h
theorem looks_six (k : Nat) (h1 : 1 ≤ k) (h2 : k ≤ 19) : (looksL (k : Int) == [109]) = decide (k = 6) := by
  have : k = 1 ∨ k = 2 ∨ k = 3 ∨ k = 4 ∨ k = 5 ∨ k = 6 ∨ k = 7 ∨ k = 8 ∨ k = 9 ∨ k = 10 ∨ k = 11 ∨ k = 12 ∨ k = 13 ∨ k = 14 ∨ k = 15 ∨ k = 16 ∨ k = 17 ∨ k = 18 ∨ k = 19 := by omega
  rcases this with rfl | rfl | rfl | rfl | rfl | rfl | rfl | rfl | rfl | rfl | rfl | rfl | rfl | rfl | rfl | rfl | rfl | rfl | rfl <;> rfl
theorem repeat_one (c : UInt8) : ∀ n, Lib.repeatL [c] n = List.replicate n c
  | 0 => rfl
  | n + 1 => by rw [Lib.repeatL, repeat_one c n]; rfl

theorem set_any (A : Nat) (o : PO) (c : UInt8) (z : Int) (s : ByteArray) (w : World) (hz : z = (c.toNat : Int)) (hs : s.size ≤ 1000000) (ho : Opc w A o) (hml : o.m.length ≤ 1000000) (hc : c = 118 ∨ c = 105 ∨ c = 98 ∨ c = 110 ∨ c = 112 ∨ c = 100 ∨ c = 109) :
    Calls Try.prog 120 #[.pointer (some ⟨A, 0, none⟩), .int .u8 z, .string s] w (SetEnds A o c s.data.toList w) := by
  subst hz
  rcases hc with rfl | rfl | rfl | rfl | rfl | rfl | rfl
  · exact set_v_any A o s w hs ho
  · exact set_i_any A o s w hs ho
  · exact set_b_any A o s w hs ho
  · exact set_n_any A o s w hs ho
  · exact set_p_any A o s w hs ho
  · exact set_d_any A o s w hs ho
  · exact set_m_any A o s w hs ho hml

theorem below_setRow {B g : Nat} {w w1 : World} (h : Below B w w1) (hg : B ≤ g) (cs : Array Value) : Below B w (w1.setRow g cs) :=
  h.trans ⟨rfl, rfl, rfl, by simp, fun k hk => setRow_other w1 g k cs (by omega)⟩
theorem owns_setRow {w : World} {base g : Nat} {e : TypeId} {size n : Nat} {v : Value} {xs : List Value} (h : w.ownsRow base e size v n xs) (hg : g < base) (cs : Array Value) : (w.setRow g cs).ownsRow base e size v n xs := by
  refine ⟨h.1, ?_⟩
  rcases h.2 with h2 | ⟨g', cap, cur, hv, hg', hh, r⟩
  · exact .inl h2
  · exact .inr ⟨g', cap, cur, hv, hg', by rw [setRow_other w g g' cs (by omega)]; exact hh, r⟩

theorem Opc.stays {w w' : World} {A C : Nat} {o : PO} (h : Opc w A o) (hb : Below C w w') (hC : w.heap.size ≤ C) : Opc w' A o := by
  obtain ⟨dv, mv, h1, h2, h3⟩ := h
  exact ⟨dv, mv, heap_below h1 hb hC, ownsRow_below h2 hb hC, ownsRow_below h3 hb hC⟩
theorem Opc.drew {w : World} {A : Nat} {o : PO} (h : Opc w A o) : Opc w.drew A o := h
theorem Opc.of_new (w : World) (k : Int) : Opc (w.alloc (.cells #[.int .i64 k, .int .i64 0, .int .i64 0, .int .i64 0, .int .i64 0, .int .u64 0, .slice none 0 0, .slice none 0 0] 80)) w.heap.size (PO.of k) :=
  ⟨_, _, heap_alloc_new _ _, World.ownsRow_nil _ _ _ _, World.ownsRow_nil _ _ _ _⟩
theorem set_no {A : Nat} {o : PO} {c : UInt8} {s : List UInt8} {w : World} {args : Array Value} (h : Calls Try.prog 120 args w (SetEnds A o c s w)) (hn : o.set c s = none) : Calls Try.prog 120 args w fun e w' => e = .returned (.bool false) ∧ Below A w w' :=
  h.mono fun e w' ⟨hb, h2⟩ => by
    rcases h2 with ⟨-, he⟩ | ⟨q, hq, -⟩
    · exact ⟨he, hb⟩
    · rw [hn] at hq; cases hq
theorem set_yes {A : Nat} {o q : PO} {c : UInt8} {s : List UInt8} {w : World} {args : Array Value} (h : Calls Try.prog 120 args w (SetEnds A o c s w)) (hs : o.set c s = some q) : Calls Try.prog 120 args w fun e w' => e = .returned (.bool true) ∧ Below A w w' ∧ Opc w' A q :=
  h.mono fun e w' ⟨hb, h2⟩ => by
    rcases h2 with ⟨hn, -⟩ | ⟨q', hq, he, ho⟩
    · rw [hs] at hn; cases hn
    · rw [hs] at hq; cases hq; exact ⟨he, hb, ho⟩
theorem res52 (tmps : Array Value) (R : Nat) (cs : Array Value) (x : Value) (W : World) (h2 : tmps[2]? = some (.pointer (some ⟨R, 0, none⟩))) (h3 : tmps[3]? = some x) (h : W.heap[R]? = some (.cells cs 80 (0, 0))) (hs : cs.size = 8) :
    (results Try.f52 tmps).run Try.prog W = .ok (.tuple #[.agg cs, x]) W := by
  have h1 := run_loadVar_row (P := Try.prog) W R 80 80 cs (0, 0) _ h Try.underlying80 rfl (by rw [hs]; exact info80)
  simp [results, Try.results52, asAddr, h2, h3, h1]

def zeroA : Array Value := #[.int .i64 0, .int .i64 0, .int .i64 0, .int .i64 0, .int .i64 0, .int .u64 0, .slice none 0 0, .slice none 0 0]
theorem zeroA_one : zeroA.all (·.oneCell') = true := by kernel_rfl
theorem opA_one (k v i b n pt : Int) (da ma : Option Addr) (dn dc mn mc : Nat) : (#[.int .i64 k, .int .i64 v, .int .i64 i, .int .i64 b, .int .i64 n, .int .u64 pt, .slice da dn dc, .slice ma mn mc] : Array Value).all (·.oneCell') = true := by simp [Value.oneCell']
theorem ends_none {l : List (List UInt8)} {w w' : World} (h : readO l = none) (hb : Below w.heap.size w w') : ReadEnds l w (.returned (.tuple #[.agg zeroA, .int .i64 21])) w' := ⟨hb, .inl ⟨h, rfl⟩⟩

set_option maxRecDepth 100000 in
set_option maxHeartbeats 16000000 in
theorem scriptRead_any (s : ByteArray) (w : World) (hs : s.size ≤ 100000) :
    Calls Try.prog 52 #[.string s] w (ReadEnds (wordsL s.data.toList) w) := by
  obtain ⟨l, hl⟩ : ∃ l, l = wordsL s.data.toList := ⟨_, rfl⟩
  have hln : l.length ≤ 100001 := by
    have h1 := List.length_filter_le (fun p : List UInt8 => !p.isEmpty) (pieces 32 s.data.toList)
    have h2 := pieces_len 32 s.data.toList
    rw [bytes_len] at h2
    rw [hl]; unfold wordsL; omega
  have hwl : ∀ y ∈ l, y.length ≤ 1000000 := fun y hy => by
    rw [hl] at hy
    have h1 := pieces_each 32 s.data.toList y (List.mem_filter.1 hy).1
    rw [bytes_len] at h1; omega
  have hwa := fun w => words_any s w (by omega)
  rw [← hl] at hwa ⊢
  have HW := Lib.hid hwa
  have HWL := Lib.hid hwl
  clear hwa hl hwl
  go_enter Try.func52, Try.ntmps52
  go_wp2_with fail
  refine (HW.out _).mono ?_
  rintro e w1 ⟨v, rfl, hown, hb1⟩
  obtain ⟨a, cap, rfl, hss⟩ := hown.ss
  have hR : w1.heap[w.heap.size]? = some (.cells zeroA 80 (0, 0)) := by
    rw [hb1.block _ (by simp)]; exact heap_alloc_new _ _
  have hRlt : w.heap.size < w1.heap.size := (Array.getElem?_eq_some_iff.1 hR).1
  have hb1 : Below w.heap.size w w1 := ((Below.refl _ _).alloc (Nat.le_refl _) _).trans (hb1.mono (by simp))
  have HR := Lib.hid hR
  clear hown HW hR
  generalize hRR : w.heap.size = R at *
  have HRR := Lib.hid hRR
  clear hRR
  cases l with
  | nil =>
    go_wp2_with fail
    go_loopw [5] (fun u5 wr => u5 = .int .i64 1 ∧ wr = w1) (fun _ _ => 0)
    case atStart => exact ⟨rfl, rfl⟩
    case round =>
      obtain ⟨rfl, rfl⟩ := hrel
      go_wp2_with ((with_reducible show wpList _ _ _ ({ dst := _, op := Op.store 80 (Operand.tmp 2) _, type := _, pos := _, after := _, guard := _ } :: _) _ _); refine wpList_store_row rfl 80 _ _ rfl R zeroA rfl rfl 80 _ HR.out info80 rfl zeroA_one ?_)
      obtain rfl := HRR.out
      exact bodyPost_ret (res52 _ w.heap.size zeroA _ _ rfl rfl (setRow_heap _ _ _ _ _ _ HR.out) rfl) rfl (ends_none (l := []) rfl (below_setRow hb1 (Nat.le_refl _) _))
  | cons x r =>
    obtain ⟨b, o, rfl, hc⟩ := hss.at (by simp)
    have hc0 : w1.cell? ⟨b, o, none⟩ = some (.string ⟨x.toArray⟩) := hc 0 _ rfl
    have HC := Lib.hid hc
    have HSS := Lib.hid hss
    clear hc hss
    have hix : (0 : Int) < (r.length : Int) + 1 := by omega
    go_wp2_with fail
    go_loopw [5] (fun u5 wr => ∃ k : Nat, 1 ≤ k ∧ k ≤ 20 ∧ u5 = .int .i64 k ∧ Hid (kindOf x = kindFrom (20 - k) k x) ∧ Below w1.heap.size w1 wr) (fun u5 _ => 20 - (intOf u5).toNat)
    case atStart => exact ⟨1, by omega, by omega, rfl, Lib.hid rfl, Below.refl _ _⟩
    case round =>
      obtain ⟨k, hk1, hk, rfl, HK, hbw⟩ := hrel
      by_cases hlt : k < 20
      · have hq0 : wr.cell? ⟨b, o, none⟩ = some (.string ⟨x.toArray⟩) := by rw [hbw.cell (World.block_lt_of_cell? _ _ hc0)]; exact hc0
        have HQ := Lib.hid fun w => word_any (k : Int) w
        have hlt1 : b < w1.heap.size := World.block_lt_of_cell? _ _ hc0
        have hkf : kindFrom (20 - k) k x = if wordL (k : Int) = x then k else kindFrom (20 - (k + 1)) (k + 1) x := by
          rw [show 20 - k = (20 - (k + 1)) + 1 by omega]; rfl
        generalize hW : wordL (k : Int) = W at *
        have HKF := Lib.hid hkf
        have HWW := Lib.hid hW
        clear hkf hW
        by_cases hWx : W = x
        · have hne : (!W == x) = false := by simp [hWx]
          have hkk : kindOf x = k := by rw [HK.out, HKF.out, if_pos hWx]
          have HKK := Lib.hid hkk
          clear hWx hkk HK HKF
          go_wp2_with fail
          (go_region_held3 (fun w' => w'.cell? ⟨b, o, none⟩ = some (.string ⟨x.toArray⟩))
              (first | exact hHeld | exact HS3 | go_keep)
              (first
               | (refine step_call (o := ⟨some 21, _, _, _, _, _⟩) (by kernel_rfl) 116 Try.func116 (by kernel_rfl) rfl _ _ rfl #[.int .i64 (k : Int)] (by simp [Act.eval]) (HQ.out _) ?_
                  rintro e w3 ⟨rfl, hb3⟩
                  refine ⟨_, rfl, ?_⟩
                  have hb4 : Below w1.heap.size w1 w3 := hbw.trans (((Below.refl wr.heap.size wr).drew.trans hb3).mono hbw.size)
                  have HS3 : w3.cell? ⟨b, o, none⟩ = some (.string ⟨x.toArray⟩) := by rw [hb4.cell hlt1]; exact hc0)))
          have hrd : readO (x :: r) = okO (setAll (PO.of (k : Int)) (lettersL (k : Int) r.length) r) := by
            rw [readO_cons, HKK.out, if_neg (by omega)]
          obtain ⟨M, hM⟩ : ∃ M, M = lettersL (k : Int) r.length := ⟨_, rfl⟩
          rw [← hM] at hrd
          have hMl := letters_ok (k : Int) r.length
          rw [← hM] at hMl
          have hrl : (r.length : Int) ≤ 100000 := by simp at hln; omega
          have HRD := Lib.hid hrd
          have HMl := Lib.hid hMl
          have hff := fields_any (k : Int)
          have hbB := hb4
          have h6 := looks_six k (by omega) (by omega)
          have hMs : (k = 6 ∧ looksL (k : Int) = [109] ∧ Lib.repeatL [109] r.length = M) ∨ (k ≠ 6 ∧ looksL (k : Int) = M) := by
            by_cases hk6 : k = 6
            · subst hk6
              refine .inl ⟨rfl, rfl, ?_⟩
              rw [repeat_one, hM]; rfl
            · refine .inr ⟨hk6, ?_⟩
              rw [hM, lettersL, if_neg (by omega)]
          clear hrd hMl hM
          rcases hMs with ⟨hk6, hl6, hM⟩ | ⟨hk6, hl6⟩
          · rw [hl6] at hff
            have HFF := Lib.hid hff
            have HM := Lib.hid hM
            clear h6 hff hl6 hk6 hM
            go_wp2_with fail
            refine (HFF.out _).mono ?_
            rintro e w4 ⟨rfl, rfl⟩
            go_wp2_with fail
            refine (Try.strings_Repeat _ r.length _ (by omega) (by show 1 * r.length ≤ _; omega)).mono ?_
            rintro e W6 ⟨rfl, hb6⟩
            rw [show Lib.repeatL (⟨#[109]⟩ : ByteArray).data.toList r.length = M from HM.out]
            have hO6 : Opc W6 w3.heap.size (PO.of (k : Int)) := (Opc.of_new w3 (k : Int)).stays hb6 (Nat.le_refl _)
            have hB6 : Below w1.heap.size w1 W6 := (hb4.alloc hb4.size _).trans (hb6.mono (by have := hb4.size; simp; omega))
            have hA1 : w1.heap.size ≤ w3.heap.size := hb4.size
            generalize w3.heap.size = A at *
            have HO6 := Lib.hid hO6
            clear hO6
            by_cases hml : M.length = r.length
            · have hm2 : ((M.length : Int) != (r.length : Int)) = false := by rw [bne_eq_false_iff_eq]; omega
              go_wp2_with fail
              go_loopw [46] (fun u46 wr => ∃ (j : Nat) (q : PO), j ≤ M.length ∧ u46 = .int .i64 j ∧ Opc wr A q ∧ q.m.length ≤ j ∧ Hid (setAll (PO.of (k : Int)) (M.take j) (r.take j) = some q) ∧ Below A W6 wr) (fun u46 _ => M.length - (intOf u46).toNat)
              case atStart => exact ⟨0, _, by omega, rfl, HO6.out, by simp [PO.of], Lib.hid rfl, Below.refl _ _⟩
              case round =>
                obtain ⟨j, q, hj, rfl, hO, hqm, HQS, hbl⟩ := hrel
                have hbl1 : Below w1.heap.size w1 wr := hB6.trans (hbl.mono hA1)
                have HO := Lib.hid hO
                by_cases hjl : j < M.length
                · obtain ⟨c, hcM⟩ : ∃ c, M[j]? = some c := ⟨_, List.getElem?_eq_getElem hjl⟩
                  obtain ⟨y, hyr⟩ : ∃ y, r[j]? = some y := ⟨_, List.getElem?_eq_getElem (by omega)⟩
                  have hst := setAll_take M r (PO.of (k : Int)) q j c y HQS.out hcM hyr
                  have hlet := HMl.out c (List.mem_of_getElem? hcM)
                  have hyl := HWL.out y (List.mem_cons_of_mem _ (List.mem_of_getElem? hyr))
                  have hcy : wr.cell? ⟨b, o + (j + 1), none⟩ = some (.string ⟨y.toArray⟩) := by
                    rw [hbl1.cell hlt1]
                    exact HC.out (j + 1) (sv (mkS y)) (by simp [hyr])
                  obtain ⟨z, hz⟩ : ∃ z : Int, z = (c.toNat : Int) := ⟨_, rfl⟩
                  have hcb : ∀ h : j < (⟨M.toArray⟩ : ByteArray).size, (((⟨M.toArray⟩ : ByteArray)[j]'h).toNat : Int) = z := fun h => by rw [byteAt M j c hcM, hz]
                  have hset := set_any A q c z ⟨y.toArray⟩ wr.drew hz (by show y.length ≤ _; exact hyl) hO.drew (by omega) hlet
                  have hj0 : (0 : Int) ≤ (j : Int) := by omega
                  have hj1 : (j : Int) < (M.length : Int) := by omega
                  have hj2 : (j : Int) < (r.length : Int) := by omega
                  have hj3 : (j : Int) + 1 < (r.length : Int) + 1 := by omega
                  have hj5 : (0 : Int) ≤ (j : Int) + 1 := by omega
                  have hw1 : IntKind.i64.wrap ((j : Int) + 1) = (j : Int) + 1 := IntWalk.i64_in _ (by omega)
                  have hw2 : ((j : Int) + 1).toNat = j + 1 := by omega
                  cases hsy : q.set c y with
                  | none =>
                    have hno : readO (x :: r) = none := by rw [HRD.out, hst.2 hsy]; rfl
                    have HN := Lib.hid hno
                    have HSET := Lib.hid (set_no hset hsy)
                    clear hno hset hst hcM hyr hlet hyl hsy hz hO
                    go_wp2_with fail
                    (go_region_held3 (fun w' => w'.cell? ⟨b, o + (j + 1), none⟩ = some (.string ⟨y.toArray⟩))
                      (first | exact hHeld | exact HS3 | go_keep)
                      (first
                       | (refine step_call (o := ⟨some 57, _, _, _, _, _⟩) (by kernel_rfl) 120 Try.func120 (by kernel_rfl) rfl _ _ rfl #[.pointer (some ⟨A, 0, none⟩), .int .u8 z, .string ⟨y.toArray⟩] (by simp [Act.eval]) HSET.out ?_
                          rintro e w9 ⟨rfl, hb9⟩
                          refine ⟨_, rfl, ?_⟩
                          have hb10 : Below w1.heap.size w1 w9 := hbl1.trans (((Below.refl A wr).drew.trans hb9).mono hA1)
                          have HS3 : w9.cell? ⟨b, o + (j + 1), none⟩ = some (.string ⟨y.toArray⟩) := by rw [hb10.cell hlt1, ← hbl1.cell hlt1]; exact hcy)))
                    all_goals
                      have hRx : w9.heap[R]? = some (.cells zeroA 80 (0, 0)) := by rw [hb10.block _ hRlt]; exact HR.out
                      have HRx := Lib.hid hRx
                      clear hRx
                      go_wp2_with ((with_reducible show wpList _ _ _ ({ dst := _, op := Op.store 80 (Operand.tmp 2) _, type := _, pos := _, after := _, guard := _ } :: _) _ _); refine wpList_store_row rfl 80 _ _ rfl R zeroA rfl rfl 80 _ HRx.out info80 rfl zeroA_one ?_)
                      obtain rfl := HRR.out
                      exact bodyPost_ret (res52 _ w.heap.size zeroA _ _ rfl rfl (setRow_heap _ _ _ _ _ _ HRx.out) rfl) rfl (ends_none HN.out (below_setRow (hb1.trans (hb10.mono hb1.size)) (Nat.le_refl _) _))
                  | some q' =>
                    have HQ2 := Lib.hid (hst.1.trans hsy)
                    have hqm2 := set_mlen hsy
                    have HSET := Lib.hid (set_yes hset hsy)
                    clear hset hst hcM hyr hlet hyl hsy hz hO
                    go_wp2_with fail
                    (go_region_held3 (fun w' => w'.cell? ⟨b, o + (j + 1), none⟩ = some (.string ⟨y.toArray⟩))
                      (first | exact hHeld | exact HS3 | go_keep)
                      (first
                       | (refine step_call (o := ⟨some 57, _, _, _, _, _⟩) (by kernel_rfl) 120 Try.func120 (by kernel_rfl) rfl _ _ rfl #[.pointer (some ⟨A, 0, none⟩), .int .u8 z, .string ⟨y.toArray⟩] (by simp [Act.eval]) HSET.out ?_
                          rintro e w9 ⟨rfl, hb9, hO9⟩
                          refine ⟨_, rfl, ?_⟩
                          have hb10 : Below A W6 w9 := hbl.trans ((Below.refl A wr).drew.trans hb9)
                          have HO9 := Lib.hid hO9
                          have HS3 : w9.cell? ⟨b, o + (j + 1), none⟩ = some (.string ⟨y.toArray⟩) := by rw [(hB6.trans (hb10.mono hA1)).cell hlt1, ← hbl1.cell hlt1]; exact hcy)))
                    all_goals
                      clear hO9
                      go_wp2_with fail
                      exact ⟨⟨j + 1, q', by omega, by go_num, HO9.out, by omega, HQ2, hb10⟩, by simp [intOf]; omega⟩
                · have hjM : j = M.length := by omega
                  subst hjM
                  have hqs := HQS.out
                  rw [List.take_length, hml, List.take_length] at hqs
                  have hrd := HRD.out
                  rw [hqs, okO] at hrd
                  obtain ⟨dv, mv, hA8, hd8, hm8⟩ := hO
                  obtain ⟨da, dc, rfl, hds, -⟩ := own_sl hd8
                  obtain ⟨ma, mc, rfl, hms, -⟩ := own_sl hm8
                  have hrt := fun w => opRight_any q.k q.v q.i q.b q.n q.pt da ma q.d.length dc q.m.length mc q.m w
                  have hrt := hrt wr hms (by omega)
                  have HRT := Lib.hid hrt
                  have HA8 := Lib.hid hA8
                  have HD8 := Lib.hid hd8
                  have HM8 := Lib.hid hm8
                  have hqr : q.right = rightO q.k q.v q.i q.b q.n q.d.length q.m := rfl
                  rw [hqr] at hrd
                  generalize rightO q.k q.v q.i q.b q.n q.d.length q.m = rt at *
                  have HRDq := Lib.hid hrd
                  clear hrd hrt hqs hA8 hd8 hm8 hds hms hqr
                  go_wp2_with ((with_reducible show wpList _ _ _ ({ dst := _, op := Op.load 80 (Operand.tmp 6), type := _, pos := _, after := _, guard := _ } :: _) _ _); refine wpList_load_row rfl 80 _ rfl A rfl 80 _ (0, 0) _ HA8.out Try.underlying80 rfl info80 ?_)
                  refine HRT.out.mono ?_
                  rintro e w9 ⟨rfl, hb9⟩
                  have hb10 : Below w1.heap.size w1 w9 := hbl1.trans (hb9.mono hbl1.size)
                  have hRx : w9.heap[R]? = some (.cells zeroA 80 (0, 0)) := by rw [hb10.block _ hRlt]; exact HR.out
                  have hA9 := heap_below HA8.out hb9 (Nat.le_refl _)
                  have HA8 := Lib.hid hA9
                  have HRx := Lib.hid hRx
                  clear hRx hA9
                  have hRA : R < A := by omega
                  cases rt
                  · go_wp2_with ((with_reducible show wpList _ _ _ ({ dst := _, op := Op.store 80 (Operand.tmp 2) _, type := _, pos := _, after := _, guard := _ } :: _) _ _); refine wpList_store_row rfl 80 _ _ rfl R zeroA rfl rfl 80 _ HRx.out info80 rfl zeroA_one ?_)
                    obtain rfl := HRR.out
                    exact bodyPost_ret (res52 _ w.heap.size zeroA _ _ rfl rfl (setRow_heap _ _ _ _ _ _ HRx.out) rfl) rfl (ends_none HRDq.out (below_setRow (hb1.trans (hb10.mono hb1.size)) (Nat.le_refl _) _))
                  · go_wp2_with (first | ((with_reducible show wpList _ _ _ ({ dst := _, op := Op.load 80 (Operand.tmp 6), type := _, pos := _, after := _, guard := _ } :: _) _ _); refine wpList_load_row rfl 80 _ rfl A rfl 80 _ (0, 0) _ HA8.out Try.underlying80 rfl info80 ?_) | ((with_reducible show wpList _ _ _ ({ dst := _, op := Op.store 80 (Operand.tmp 2) _, type := _, pos := _, after := _, guard := _ } :: _) _ _); refine wpList_store_row rfl 80 _ _ rfl R _ rfl rfl 80 _ HRx.out info80 rfl (opA_one _ _ _ _ _ _ _ _ _ _ _ _) ?_))
                    obtain rfl := HRR.out
                    exact bodyPost_ret (res52 _ w.heap.size _ _ _ rfl rfl (setRow_heap _ _ _ _ _ _ HRx.out) rfl) rfl ⟨below_setRow (hb1.trans (hb10.mono hb1.size)) (Nat.le_refl _) _, .inr ⟨q, _, _, HRDq.out, rfl, ownsRow_base (owns_setRow (ownsRow_below HD8.out hb9 (Nat.le_refl _)) (by omega) _) (by omega), ownsRow_base (owns_setRow (ownsRow_below HM8.out hb9 (Nat.le_refl _)) (by omega) _) (by omega)⟩⟩
            · have hm2 : ((M.length : Int) != (r.length : Int)) = true := by rw [bne_iff_ne]; omega
              have hno : readO (x :: r) = none := by
                rw [HRD.out]
                cases hs2 : setAll (PO.of (k : Int)) M r with
                | none => rfl
                | some p => exact absurd (setAll_len _ _ _ _ hs2) hml
              have HN := Lib.hid hno
              have hRx : W6.heap[R]? = some (.cells zeroA 80 (0, 0)) := by rw [hB6.block _ hRlt]; exact HR.out
              have HRx := Lib.hid hRx
              clear hno hRx hml
              go_wp2_with ((with_reducible show wpList _ _ _ ({ dst := _, op := Op.store 80 (Operand.tmp 2) _, type := _, pos := _, after := _, guard := _ } :: _) _ _); refine wpList_store_row rfl 80 _ _ rfl R zeroA rfl rfl 80 _ HRx.out info80 rfl zeroA_one ?_)
              obtain rfl := HRR.out
              exact bodyPost_ret (res52 _ w.heap.size zeroA _ _ rfl rfl (setRow_heap _ _ _ _ _ _ HRx.out) rfl) rfl (ends_none HN.out (below_setRow (hb1.trans (hB6.mono hb1.size)) (Nat.le_refl _) _))
          · rw [hl6] at hff
            have hl6b : (M == [109]) = false := by rw [← hl6, h6]; simp [hk6]
            have HFF := Lib.hid hff
            clear h6 hff hl6 hk6
            have hO6 := Opc.of_new w3 (k : Int)
            have hB6 : Below w1.heap.size w1 (w3.alloc (.cells #[.int .i64 (k : Int), .int .i64 0, .int .i64 0, .int .i64 0, .int .i64 0, .int .u64 0, .slice none 0 0, .slice none 0 0] 80)) := hb4.alloc hb4.size _
            have hA1 : w1.heap.size ≤ w3.heap.size := hb4.size
            have HO6 := Lib.hid hO6
            clear hO6
            by_cases hml : M.length = r.length
            · have hm2 : ((M.length : Int) != (r.length : Int)) = false := by rw [bne_eq_false_iff_eq]; omega
              go_wp2_with fail
              refine (HFF.out _).mono ?_
              rintro e w4 ⟨rfl, rfl⟩
              go_wp2_with fail
              generalize w3.alloc (.cells #[.int .i64 (k : Int), .int .i64 0, .int .i64 0, .int .i64 0, .int .i64 0, .int .u64 0, .slice none 0 0, .slice none 0 0] 80) = W6 at *
              generalize w3.heap.size = A at *
              go_loopw [46] (fun u46 wr => ∃ (j : Nat) (q : PO), j ≤ M.length ∧ u46 = .int .i64 j ∧ Opc wr A q ∧ q.m.length ≤ j ∧ Hid (setAll (PO.of (k : Int)) (M.take j) (r.take j) = some q) ∧ Below A W6 wr) (fun u46 _ => M.length - (intOf u46).toNat)
              case atStart => exact ⟨0, _, by omega, rfl, HO6.out, by simp [PO.of], Lib.hid rfl, Below.refl _ _⟩
              case round =>
                obtain ⟨j, q, hj, rfl, hO, hqm, HQS, hbl⟩ := hrel
                have hbl1 : Below w1.heap.size w1 wr := hB6.trans (hbl.mono hA1)
                have HO := Lib.hid hO
                by_cases hjl : j < M.length
                · obtain ⟨c, hcM⟩ : ∃ c, M[j]? = some c := ⟨_, List.getElem?_eq_getElem hjl⟩
                  obtain ⟨y, hyr⟩ : ∃ y, r[j]? = some y := ⟨_, List.getElem?_eq_getElem (by omega)⟩
                  have hst := setAll_take M r (PO.of (k : Int)) q j c y HQS.out hcM hyr
                  have hlet := HMl.out c (List.mem_of_getElem? hcM)
                  have hyl := HWL.out y (List.mem_cons_of_mem _ (List.mem_of_getElem? hyr))
                  have hcy : wr.cell? ⟨b, o + (j + 1), none⟩ = some (.string ⟨y.toArray⟩) := by
                    rw [hbl1.cell hlt1]
                    exact HC.out (j + 1) (sv (mkS y)) (by simp [hyr])
                  obtain ⟨z, hz⟩ : ∃ z : Int, z = (c.toNat : Int) := ⟨_, rfl⟩
                  have hcb : ∀ h : j < (⟨M.toArray⟩ : ByteArray).size, (((⟨M.toArray⟩ : ByteArray)[j]'h).toNat : Int) = z := fun h => by rw [byteAt M j c hcM, hz]
                  have hset := set_any A q c z ⟨y.toArray⟩ wr.drew hz (by show y.length ≤ _; exact hyl) hO.drew (by omega) hlet
                  have hj0 : (0 : Int) ≤ (j : Int) := by omega
                  have hj1 : (j : Int) < (M.length : Int) := by omega
                  have hj2 : (j : Int) < (r.length : Int) := by omega
                  have hj3 : (j : Int) + 1 < (r.length : Int) + 1 := by omega
                  have hj5 : (0 : Int) ≤ (j : Int) + 1 := by omega
                  have hw1 : IntKind.i64.wrap ((j : Int) + 1) = (j : Int) + 1 := IntWalk.i64_in _ (by omega)
                  have hw2 : ((j : Int) + 1).toNat = j + 1 := by omega
                  cases hsy : q.set c y with
                  | none =>
                    have hno : readO (x :: r) = none := by rw [HRD.out, hst.2 hsy]; rfl
                    have HN := Lib.hid hno
                    have HSET := Lib.hid (set_no hset hsy)
                    clear hno hset hst hcM hyr hlet hyl hsy hz hO
                    go_wp2_with fail
                    (go_region_held3 (fun w' => w'.cell? ⟨b, o + (j + 1), none⟩ = some (.string ⟨y.toArray⟩))
                      (first | exact hHeld | exact HS3 | go_keep)
                      (first
                       | (refine step_call (o := ⟨some 57, _, _, _, _, _⟩) (by kernel_rfl) 120 Try.func120 (by kernel_rfl) rfl _ _ rfl #[.pointer (some ⟨A, 0, none⟩), .int .u8 z, .string ⟨y.toArray⟩] (by simp [Act.eval]) HSET.out ?_
                          rintro e w9 ⟨rfl, hb9⟩
                          refine ⟨_, rfl, ?_⟩
                          have hb10 : Below w1.heap.size w1 w9 := hbl1.trans (((Below.refl A wr).drew.trans hb9).mono hA1)
                          have HS3 : w9.cell? ⟨b, o + (j + 1), none⟩ = some (.string ⟨y.toArray⟩) := by rw [hb10.cell hlt1, ← hbl1.cell hlt1]; exact hcy)))
                    all_goals
                      have hRx : w9.heap[R]? = some (.cells zeroA 80 (0, 0)) := by rw [hb10.block _ hRlt]; exact HR.out
                      have HRx := Lib.hid hRx
                      clear hRx
                      go_wp2_with ((with_reducible show wpList _ _ _ ({ dst := _, op := Op.store 80 (Operand.tmp 2) _, type := _, pos := _, after := _, guard := _ } :: _) _ _); refine wpList_store_row rfl 80 _ _ rfl R zeroA rfl rfl 80 _ HRx.out info80 rfl zeroA_one ?_)
                      obtain rfl := HRR.out
                      exact bodyPost_ret (res52 _ w.heap.size zeroA _ _ rfl rfl (setRow_heap _ _ _ _ _ _ HRx.out) rfl) rfl (ends_none HN.out (below_setRow (hb1.trans (hb10.mono hb1.size)) (Nat.le_refl _) _))
                  | some q' =>
                    have HQ2 := Lib.hid (hst.1.trans hsy)
                    have hqm2 := set_mlen hsy
                    have HSET := Lib.hid (set_yes hset hsy)
                    clear hset hst hcM hyr hlet hyl hsy hz hO
                    go_wp2_with fail
                    (go_region_held3 (fun w' => w'.cell? ⟨b, o + (j + 1), none⟩ = some (.string ⟨y.toArray⟩))
                      (first | exact hHeld | exact HS3 | go_keep)
                      (first
                       | (refine step_call (o := ⟨some 57, _, _, _, _, _⟩) (by kernel_rfl) 120 Try.func120 (by kernel_rfl) rfl _ _ rfl #[.pointer (some ⟨A, 0, none⟩), .int .u8 z, .string ⟨y.toArray⟩] (by simp [Act.eval]) HSET.out ?_
                          rintro e w9 ⟨rfl, hb9, hO9⟩
                          refine ⟨_, rfl, ?_⟩
                          have hb10 : Below A W6 w9 := hbl.trans ((Below.refl A wr).drew.trans hb9)
                          have HO9 := Lib.hid hO9
                          have HS3 : w9.cell? ⟨b, o + (j + 1), none⟩ = some (.string ⟨y.toArray⟩) := by rw [(hB6.trans (hb10.mono hA1)).cell hlt1, ← hbl1.cell hlt1]; exact hcy)))
                    all_goals
                      clear hO9
                      go_wp2_with fail
                      exact ⟨⟨j + 1, q', by omega, by go_num, HO9.out, by omega, HQ2, hb10⟩, by simp [intOf]; omega⟩
                · have hjM : j = M.length := by omega
                  subst hjM
                  have hqs := HQS.out
                  rw [List.take_length, hml, List.take_length] at hqs
                  have hrd := HRD.out
                  rw [hqs, okO] at hrd
                  obtain ⟨dv, mv, hA8, hd8, hm8⟩ := hO
                  obtain ⟨da, dc, rfl, hds, -⟩ := own_sl hd8
                  obtain ⟨ma, mc, rfl, hms, -⟩ := own_sl hm8
                  have hrt := fun w => opRight_any q.k q.v q.i q.b q.n q.pt da ma q.d.length dc q.m.length mc q.m w
                  have hrt := hrt wr hms (by omega)
                  have HRT := Lib.hid hrt
                  have HA8 := Lib.hid hA8
                  have HD8 := Lib.hid hd8
                  have HM8 := Lib.hid hm8
                  have hqr : q.right = rightO q.k q.v q.i q.b q.n q.d.length q.m := rfl
                  rw [hqr] at hrd
                  generalize rightO q.k q.v q.i q.b q.n q.d.length q.m = rt at *
                  have HRDq := Lib.hid hrd
                  clear hrd hrt hqs hA8 hd8 hm8 hds hms hqr
                  go_wp2_with ((with_reducible show wpList _ _ _ ({ dst := _, op := Op.load 80 (Operand.tmp 6), type := _, pos := _, after := _, guard := _ } :: _) _ _); refine wpList_load_row rfl 80 _ rfl A rfl 80 _ (0, 0) _ HA8.out Try.underlying80 rfl info80 ?_)
                  refine HRT.out.mono ?_
                  rintro e w9 ⟨rfl, hb9⟩
                  have hb10 : Below w1.heap.size w1 w9 := hbl1.trans (hb9.mono hbl1.size)
                  have hRx : w9.heap[R]? = some (.cells zeroA 80 (0, 0)) := by rw [hb10.block _ hRlt]; exact HR.out
                  have hA9 := heap_below HA8.out hb9 (Nat.le_refl _)
                  have HA8 := Lib.hid hA9
                  have HRx := Lib.hid hRx
                  clear hRx hA9
                  have hRA : R < A := by omega
                  cases rt
                  · go_wp2_with ((with_reducible show wpList _ _ _ ({ dst := _, op := Op.store 80 (Operand.tmp 2) _, type := _, pos := _, after := _, guard := _ } :: _) _ _); refine wpList_store_row rfl 80 _ _ rfl R zeroA rfl rfl 80 _ HRx.out info80 rfl zeroA_one ?_)
                    obtain rfl := HRR.out
                    exact bodyPost_ret (res52 _ w.heap.size zeroA _ _ rfl rfl (setRow_heap _ _ _ _ _ _ HRx.out) rfl) rfl (ends_none HRDq.out (below_setRow (hb1.trans (hb10.mono hb1.size)) (Nat.le_refl _) _))
                  · go_wp2_with (first | ((with_reducible show wpList _ _ _ ({ dst := _, op := Op.load 80 (Operand.tmp 6), type := _, pos := _, after := _, guard := _ } :: _) _ _); refine wpList_load_row rfl 80 _ rfl A rfl 80 _ (0, 0) _ HA8.out Try.underlying80 rfl info80 ?_) | ((with_reducible show wpList _ _ _ ({ dst := _, op := Op.store 80 (Operand.tmp 2) _, type := _, pos := _, after := _, guard := _ } :: _) _ _); refine wpList_store_row rfl 80 _ _ rfl R _ rfl rfl 80 _ HRx.out info80 rfl (opA_one _ _ _ _ _ _ _ _ _ _ _ _) ?_))
                    obtain rfl := HRR.out
                    exact bodyPost_ret (res52 _ w.heap.size _ _ _ rfl rfl (setRow_heap _ _ _ _ _ _ HRx.out) rfl) rfl ⟨below_setRow (hb1.trans (hb10.mono hb1.size)) (Nat.le_refl _) _, .inr ⟨q, _, _, HRDq.out, rfl, ownsRow_base (owns_setRow (ownsRow_below HD8.out hb9 (Nat.le_refl _)) (by omega) _) (by omega), ownsRow_base (owns_setRow (ownsRow_below HM8.out hb9 (Nat.le_refl _)) (by omega) _) (by omega)⟩⟩
            · have hm2 : ((M.length : Int) != (r.length : Int)) = true := by rw [bne_iff_ne]; omega
              have hno : readO (x :: r) = none := by
                rw [HRD.out]
                cases hs2 : setAll (PO.of (k : Int)) M r with
                | none => rfl
                | some p => exact absurd (setAll_len _ _ _ _ hs2) hml
              have HN := Lib.hid hno
              have hRx : (w3.alloc (.cells #[.int .i64 (k : Int), .int .i64 0, .int .i64 0, .int .i64 0, .int .i64 0, .int .u64 0, .slice none 0 0, .slice none 0 0] 80)).heap[R]? = some (.cells zeroA 80 (0, 0)) := by rw [hB6.block _ hRlt]; exact HR.out
              have HRx := Lib.hid hRx
              clear hno hRx hml
              go_wp2_with fail
              refine (HFF.out _).mono ?_
              rintro e w4 ⟨rfl, rfl⟩
              go_wp2_with ((with_reducible show wpList _ _ _ ({ dst := _, op := Op.store 80 (Operand.tmp 2) _, type := _, pos := _, after := _, guard := _ } :: _) _ _); refine wpList_store_row rfl 80 _ _ rfl R zeroA rfl rfl 80 _ HRx.out info80 rfl zeroA_one ?_)
              obtain rfl := HRR.out
              exact bodyPost_ret (res52 _ w.heap.size zeroA _ _ rfl rfl (setRow_heap _ _ _ _ _ _ HRx.out) rfl) rfl (ends_none HN.out (below_setRow (hb1.trans (hB6.mono hb1.size)) (Nat.le_refl _) _))
        · have hne : (!W == x) = true := by simp [hWx]
          have hkn : kindOf x = kindFrom (20 - (k + 1)) (k + 1) x := by rw [HK.out, HKF.out, if_neg hWx]
          have HKN := Lib.hid hkn
          clear hWx hkn HK HKF
          go_wp2_with fail
          (go_region_held3 (fun w' => w'.cell? ⟨b, o, none⟩ = some (.string ⟨x.toArray⟩))
              (first | exact hHeld | exact HS3 | go_keep)
              (first
               | (refine step_call (o := ⟨some 21, _, _, _, _, _⟩) (by kernel_rfl) 116 Try.func116 (by kernel_rfl) rfl _ _ rfl #[.int .i64 (k : Int)] (by simp [Act.eval]) (HQ.out _) ?_
                  rintro e w3 ⟨rfl, hb3⟩
                  refine ⟨_, rfl, ?_⟩
                  have hb4 : Below w1.heap.size w1 w3 := hbw.trans (((Below.refl wr.heap.size wr).drew.trans hb3).mono hbw.size)
                  have HS3 : w3.cell? ⟨b, o, none⟩ = some (.string ⟨x.toArray⟩) := by rw [hb4.cell hlt1]; exact hc0)))
          all_goals
            go_wp2_with fail
            exact ⟨⟨k + 1, by omega, by omega, by go_num, HKN, hb4⟩, by simp [intOf]; omega⟩
      · have hk20 : k = 20 := by omega
        subst hk20
        have hkn : readO (x :: r) = none := by rw [readO_cons, if_pos (by rw [HK.out]; rfl)]
        have HN := Lib.hid hkn
        have hR3 : wr.heap[R]? = some (.cells zeroA 80 (0, 0)) := by rw [hbw.block _ hRlt]; exact HR.out
        have HR3 := Lib.hid hR3
        clear hkn hR3
        go_wp2_with ((with_reducible show wpList _ _ _ ({ dst := _, op := Op.store 80 (Operand.tmp 2) _, type := _, pos := _, after := _, guard := _ } :: _) _ _); refine wpList_store_row rfl 80 _ _ rfl R zeroA rfl rfl 80 _ HR3.out info80 rfl zeroA_one ?_)
        obtain rfl := HRR.out
        exact bodyPost_ret (res52 _ w.heap.size zeroA _ _ rfl rfl (setRow_heap _ _ _ _ _ _ HR3.out) rfl) rfl (ends_none HN.out (below_setRow (hb1.trans (hbw.mono hb1.size)) (Nat.le_refl _) _))
end Go.Proofs.Ytljbehndnledpaa
