/- The walks of text.split, Words, Lines and yesteryearref08.Pieces, Words, Lines, slices.Equal at texts. Conditions: those of each theorem. -/
import Derived.Test.YtljbehndnledpaaPieces
namespace Go.Proofs.Ytljbehndnledpaa
open Go.RowKit

/-- A slice of texts of the call's own. -/
def OwnS (w : World) (B : Nat) (v : Value) (l : List (List UInt8)) : Prop := w.ownsRow B 9 1 v l.length (l.map fun x => sv (mkS x))

theorem OwnS.push {w : World} {B : Nat} {v : Value} {l : List (List UInt8)} (h : OwnS w B v l) (s : ByteArray) (x : List UInt8) (hs : s = mkS x) (hl : l.length ≤ 1000000000) (hB : B ≤ w.heap.size) :
    ∃ v' w', (Builtin.append_ #[52, 52] 52 #[v, .slice (some ⟨w.heap.size, 0, none⟩) 1 1]).run Try.prog (w.alloc (.cells #[.string s] 9)) = .ok v' w' ∧ OwnS w' B v' (l ++ [x]) ∧ w.grownBy w' v.ownBlock := by
  obtain ⟨i0, hi, hz0, hz1, hz2⟩ := info_parts info9
  obtain ⟨v', w', hap, hown', hgr, _⟩ := app_new (P := Try.prog) Try.underlying52 hi hz0 hz1 hz2 rfl (by decide) h 1 [.string s] rfl (by simp [Value.oneCell']) (by unfold maxLen; omega) (by omega) hB
  refine ⟨v', w', hap, ?_, hgr⟩
  subst hs
  unfold OwnS
  rw [List.length_append, List.map_append]
  exact hown'

theorem OwnS.below {w0 w w' : World} {B C : Nat} {v : Value} {l : List (List UInt8)} (h : OwnS w B v l) (hb : Below C w0 w) (hg : w.grownBy w' v.ownBlock) (hB : C ≤ B) (hw : C ≤ w.heap.size) : Below C w0 w' :=
  Below.own hb h hg hB hw

set_option maxRecDepth 100000 in
set_option maxHeartbeats 1000000 in
theorem split_any (s : ByteArray) (c : UInt8) (z : Int) (w : World) (hs : s.size ≤ 100000000) (hz : z = (c.toNat : Int)) :
    Calls Try.prog 100 #[.string s, .int .u8 z] w fun e w' => ∃ v, e = .returned v ∧ OwnS w' w.heap.size v (pieces c s.data.toList) ∧ Below w.heap.size w w' := by
  have HZ := Lib.hid hz
  clear hz
  have hl0 := bytes_len s
  have HL := Lib.hid hl0
  clear hl0
  go_enter Try.func100, Try.ntmps100
  go_wp2_with fail
  go_loopw [5, 6, 11] (fun u5 u6 u11 wr => ∃ (k f : Nat) (done : List (List UInt8)), u11 = .int .i64 k ∧ u6 = .int .i64 f ∧ OwnS wr w.heap.size u5 done ∧ Below w.heap.size w wr ∧
      ((k ≤ s.size ∧ f ≤ k ∧ Hid (done = (fwd c (s.data.toList.take k)).1 ∧ (s.data.toList.take k).drop f = (fwd c (s.data.toList.take k)).2)) ∨ (k = s.size + 1 ∧ Hid (done = pieces c s.data.toList))))
    (fun _ _ u11 _ => s.size + 1 - (intOf u11).toNat)
  case atStart => exact ⟨0, 0, [], rfl, rfl, World.ownsRow_nil _ _ _ _, Below.refl _ _, .inl ⟨by omega, by omega, ⟨rfl, rfl⟩⟩⟩
  case round =>
    obtain ⟨k, f, done, rfl, rfl, hown, hbw, hr⟩ := hrel
    rcases hr with ⟨hk, hf, HR⟩ | ⟨rfl, HR⟩
    · have hdl : done.length ≤ 100000000 := by
        have h1 := HR.out.1
        have h2 := (fwd_len c (s.data.toList.take k)).1
        rw [← h1, List.length_take] at h2
        omega
      obtain ⟨v', w', hap, hown', hgr⟩ := hown.push (s.extract f k) _ (extract_list s f k) (by omega) hbw.size
      have hbw' := hown.below hbw hgr (Nat.le_refl _) hbw.size
      by_cases hlt : k < s.size
      · have hke : ((k : Int) == (s.size : Int)) = false := by rw [beq_eq_false_iff_ne]; omega
        have hts := take_snoc s k hlt
        have hfs := fwd_snoc c (s.data.toList.take k) s[k]
        rw [← hts] at hfs
        by_cases hc : s[k] = c
        · have hc' : ((s[k].toNat : Int) == z) = true := by rw [beq_iff_eq, HZ.out, hc]
          have hnew : done ++ [(s.data.toList.take k).drop f] = (fwd c (s.data.toList.take (k + 1))).1 ∧ (s.data.toList.take (k + 1)).drop (k + 1) = (fwd c (s.data.toList.take (k + 1))).2 := by
            rw [hfs, pstep, if_pos hc, HR.out.2, HR.out.1]
            exact ⟨rfl, List.drop_of_length_le (by rw [List.length_take]; omega)⟩
          have HN := Lib.hid hnew
          clear hts hfs hc hnew
          go_wp2_with (at_builtin; refine wpList_append_run rfl _ _ _ rfl hap ?_)
          exact ⟨⟨k + 1, k + 1, _, by go_num, by go_num, hown', hbw', .inl ⟨by omega, by omega, HN⟩⟩, by simp [intOf]; omega⟩
        · have hc' : ((s[k].toNat : Int) == z) = false := by
            rw [beq_eq_false_iff_ne, HZ.out]
            intro e
            exact hc (UInt8.toNat_inj.1 (by omega))
          have hnew : done = (fwd c (s.data.toList.take (k + 1))).1 ∧ (s.data.toList.take (k + 1)).drop f = (fwd c (s.data.toList.take (k + 1))).2 := by
            rw [hfs, pstep, if_neg hc, ← HR.out.2, hts]
            exact ⟨HR.out.1, List.drop_append_of_le_length (by rw [List.length_take, HL.out]; omega)⟩
          have HN := Lib.hid hnew
          clear hts hfs hc hnew
          go_wp2_with fail
          exact ⟨⟨k + 1, f, _, by go_num, rfl, hown, hbw, .inl ⟨by omega, by omega, HN⟩⟩, by simp [intOf]; omega⟩
      · obtain rfl : k = s.size := by omega
        have hnew : done ++ [(s.data.toList.take s.size).drop f] = pieces c s.data.toList := by
          rw [HR.out.2, HR.out.1, take_all]; rfl
        have HN := Lib.hid hnew
        clear hnew
        go_wp2_with (at_builtin; refine wpList_append_run rfl _ _ _ rfl hap ?_)
        exact ⟨⟨s.size + 1, s.size + 1, _, by go_num, by go_num, hown', hbw', .inr ⟨rfl, HN⟩⟩, by simp [intOf]⟩
    · go_wp2_with fail
      go_ret
      rw [HR.out] at hown
      exact ⟨_, rfl, hown, hbw⟩
theorem extract_one (s : ByteArray) (k : Nat) (h : k < s.size) : s.extract k (k + 1) = mkS [s[k]] := by
  rw [extract_list, take_snoc s k h, List.drop_append_of_le_length (by rw [List.length_take, bytes_len]; omega), List.drop_of_length_le (by rw [List.length_take]; omega)]
  rfl

theorem mkS_app (a b : List UInt8) : mkS a ++ mkS b = mkS (a ++ b) := bytes_app a b

set_option maxRecDepth 100000 in
set_option maxHeartbeats 1000000 in
theorem refPieces_any (s : ByteArray) (c : UInt8) (z : Int) (w : World) (hs : s.size ≤ 100000000) (hz : z = (c.toNat : Int)) :
    Calls Try.prog 101 #[.string s, .int .u8 z] w fun e w' => ∃ v, e = .returned v ∧ OwnS w' w.heap.size v (pieces c s.data.toList) ∧ Below w.heap.size w w' := by
  have HZ := Lib.hid hz
  clear hz
  go_enter Try.func101, Try.ntmps101
  go_wp2_with fail
  go_loopw [5, 6, 7] (fun u5 u6 u7 wr => ∃ (k : Nat) (p : ByteArray) (done : List (List UInt8)), u7 = .int .i64 k ∧ u6 = .string p ∧ OwnS wr w.heap.size u5 done ∧ Below w.heap.size w wr ∧
      k ≤ s.size ∧ p.size ≤ k ∧ Hid (done = (fwd c (s.data.toList.take k)).1 ∧ p = mkS (fwd c (s.data.toList.take k)).2))
    (fun _ _ u7 _ => s.size - (intOf u7).toNat)
  case atStart => exact ⟨0, mkS [], [], rfl, rfl, World.ownsRow_nil _ _ _ _, Below.refl _ _, by omega, by rw [mkS_size]; simp, ⟨rfl, rfl⟩⟩
  case round =>
    obtain ⟨k, p, done, rfl, rfl, hown, hbw, hk, hps, HR⟩ := hrel
    have hdl : done.length ≤ 100000000 := by
      have h1 := HR.out.1
      have h2 := (fwd_len c (s.data.toList.take k)).1
      rw [← h1, List.length_take] at h2
      omega
    obtain ⟨v', w', hap, hown', hgr⟩ := hown.push p _ HR.out.2 (by omega) hbw.size
    have hbw' := hown.below hbw hgr (Nat.le_refl _) hbw.size
    by_cases hlt : k < s.size
    · have hts := take_snoc s k hlt
      have hfs := fwd_snoc c (s.data.toList.take k) s[k]
      rw [← hts] at hfs
      by_cases hc : s[k] = c
      · have hc' : ((s[k].toNat : Int) == z) = true := by rw [beq_iff_eq, HZ.out, hc]
        have hnew : done ++ [(fwd c (s.data.toList.take k)).2] = (fwd c (s.data.toList.take (k + 1))).1 ∧ mkS [] = mkS (fwd c (s.data.toList.take (k + 1))).2 := by
          rw [hfs, pstep, if_pos hc, HR.out.1]
          exact ⟨rfl, rfl⟩
        have HN := Lib.hid hnew
        clear hts hfs hc hnew
        go_wp2_with (at_builtin; refine wpList_append_run rfl _ _ _ rfl hap ?_)
        exact ⟨⟨k + 1, mkS [], _, by go_num, rfl, hown', hbw', by omega, by rw [mkS_size]; simp, HN⟩, by simp [intOf]; omega⟩
      · have hc' : ((s[k].toNat : Int) == z) = false := by
          rw [beq_eq_false_iff_ne, HZ.out]
          intro e
          exact hc (UInt8.toNat_inj.1 (by omega))
        have hnew : done = (fwd c (s.data.toList.take (k + 1))).1 ∧ p ++ s.extract k (k + 1) = mkS (fwd c (s.data.toList.take (k + 1))).2 := by
          rw [hfs, pstep, if_neg hc, extract_one s k hlt, HR.out.2, mkS_app]
          exact ⟨HR.out.1, rfl⟩
        have hps' : (p ++ s.extract k (k + 1)).size ≤ k + 1 := by rw [ByteArray.size_append, extract_one s k hlt, mkS_size]; simp; omega
        have HN := Lib.hid hnew
        clear hts hfs hc hnew
        go_wp2_with fail
        exact ⟨⟨k + 1, _, _, by go_num, rfl, hown, hbw, by omega, hps', HN⟩, by simp [intOf]; omega⟩
    · obtain rfl : k = s.size := by omega
      have hnew : done ++ [(fwd c (s.data.toList.take s.size)).2] = pieces c s.data.toList := by
        rw [HR.out.1, take_all]; rfl
      rw [hnew] at hown'
      clear hnew
      go_wp2_with (at_builtin; refine wpList_append_run rfl _ _ _ rfl hap ?_)
      go_ret
      exact ⟨_, rfl, hown', hbw'⟩
theorem ownsRow_base {w : World} {B C : Nat} {e : TypeId} {size n : Nat} {v : Value} {xs : List Value} (h : w.ownsRow B e size v n xs) (hC : C ≤ B) : w.ownsRow C e size v n xs := by
  refine ⟨h.1, ?_⟩
  rcases h.2 with h2 | ⟨g, cap, cur, hv, hb, r⟩
  · exact .inl h2
  · exact .inr ⟨g, cap, cur, hv, by omega, r⟩

theorem OwnS.base {w : World} {B C : Nat} {v : Value} {l : List (List UInt8)} (h : OwnS w B v l) (hC : C ≤ B) : OwnS w C v l := ownsRow_base h hC

theorem mkS_test (x : List UInt8) : (x = [] → (mkS x).toList = []) ∧ (x ≠ [] → (mkS x).toList.isEmpty = false ∧ ¬ (mkS x).toList = []) := by
  have e : (mkS x).toList = x := by rw [ByteArray.toList_eq, mkS_data]
  rw [e]
  exact ⟨id, fun h => ⟨by simpa using h, h⟩⟩

theorem pieces_len (c : UInt8) (l : List UInt8) : (pieces c l).length ≤ l.length + 1 := by
  unfold pieces
  rw [List.length_append, List.length_singleton]
  have := (fwd_len c l).1
  omega

theorem filter_snoc (l : List (List UInt8)) (k : Nat) (h : k < l.length) : (l.take (k + 1)).filter (fun p => !p.isEmpty) = (l.take k).filter (fun p => !p.isEmpty) ++ (if l[k] = [] then [] else [l[k]]) := by
  rw [List.take_succ_eq_append_getElem h, List.filter_append]
  congr 1
  by_cases hx : l[k] = []
  · simp [hx]
  · rw [if_neg hx]; simp [hx]

/-- What a loop that gathers the pieces that aren't empty keeps. -/
def GatherRel (l : List (List UInt8)) (w1 : World) (u ui : Value) (wr : World) : Prop :=
  ∃ k : Nat, k ≤ l.length ∧ ui = .int .i64 k ∧ OwnS wr w1.heap.size u ((l.take k).filter fun p => !p.isEmpty) ∧ Below w1.heap.size w1 wr

set_option maxRecDepth 100000 in
set_option maxHeartbeats 1000000 in
theorem words_any (s : ByteArray) (w : World) (hs : s.size ≤ 100000000) :
    Calls Try.prog 33 #[.string s] w fun e w' => ∃ v, e = .returned v ∧ OwnS w' w.heap.size v (wordsL s.data.toList) ∧ Below w.heap.size w w' := by
  go_enter Try.func33, Try.ntmps33
  go_wp2_with fail
  refine (split_any s 32 32 w hs rfl).mono ?_
  rintro e w1 ⟨v, rfl, hown, hb1⟩
  have hpl := pieces_len 32 s.data.toList
  rw [bytes_len] at hpl
  have HW := Lib.hid (show wordsL s.data.toList = (pieces 32 s.data.toList).filter fun p => !p.isEmpty from rfl)
  generalize pieces 32 s.data.toList = l at *
  obtain ⟨a, cap, rfl, hsl, _⟩ := own_sl hown
  clear hown
  go_wp2_with fail
  go_loopw [3, 9] (fun u3 u9 wr => GatherRel l w1 u3 u9 wr) (fun _ u9 _ => l.length - (intOf u9).toNat)
  case atStart => exact ⟨0, by omega, rfl, World.ownsRow_nil _ _ _ _, Below.refl _ _⟩
  case round =>
    obtain ⟨k, hk, rfl, hown, hbw⟩ := hrel
    by_cases hlt : k < l.length
    · obtain ⟨b, o, rfl, hc⟩ := hsl.at (by omega)
      have hck := hc k (sv (mkS l[k])) (by rw [List.getElem?_map, List.getElem?_eq_getElem hlt]; rfl)
      rw [← hbw.cell (World.block_lt_of_cell? w1 _ hck)] at hck
      have hfs := filter_snoc l k hlt
      have hfl : ((l.take k).filter fun p => !p.isEmpty).length ≤ l.length := by
        have h1 := List.length_filter_le (fun p : List UInt8 => !p.isEmpty) (l.take k)
        rw [List.length_take] at h1; omega
      generalize l[k] = x at *
      have ht := mkS_test x
      obtain ⟨v', w', hap, hown', hgr⟩ := hown.push (mkS x) x rfl (by omega) hbw.size
      have hbw' := hown.below hbw hgr (Nat.le_refl _) hbw.size
      unfold sv at hck
      generalize hsx : mkS x = sx at *
      by_cases hx : x = []
      · have ht1 := ht.1 hx
        rw [if_pos hx, List.append_nil] at hfs
        have HF := Lib.hid hfs
        clear ht hfs hx hsx hc
        go_wp2_with fail
        exact ⟨⟨k + 1, by omega, by go_num, by rw [HF.out]; exact hown, hbw⟩, by simp [intOf]; omega⟩
      · obtain ⟨ht1, ht2⟩ := ht.2 hx
        rw [if_neg hx] at hfs
        have HF := Lib.hid hfs
        clear ht hfs hx hsx hc
        go_wp2_with (at_builtin; refine wpList_append_run rfl _ _ _ rfl hap ?_)
        exact ⟨⟨k + 1, by omega, by go_num, by rw [HF.out]; exact hown', hbw'⟩, by simp [intOf]; omega⟩
    · obtain rfl : k = l.length := by omega
      rw [List.take_length, ← HW.out] at hown
      go_wp2_with fail
      go_ret
      exact ⟨_, rfl, hown.base hb1.size, hb1.trans (hbw.mono hb1.size)⟩
set_option maxRecDepth 100000 in
set_option maxHeartbeats 1000000 in
theorem refWords_any (s : ByteArray) (w : World) (hs : s.size ≤ 100000000) :
    Calls Try.prog 34 #[.string s] w fun e w' => ∃ v, e = .returned v ∧ OwnS w' w.heap.size v (wordsL s.data.toList) ∧ Below w.heap.size w w' := by
  go_enter Try.func34, Try.ntmps34
  go_wp2_with fail
  refine (refPieces_any s 32 32 w hs rfl).mono ?_
  rintro e w1 ⟨v, rfl, hown, hb1⟩
  have hpl := pieces_len 32 s.data.toList
  rw [bytes_len] at hpl
  have HW := Lib.hid (show wordsL s.data.toList = (pieces 32 s.data.toList).filter fun p => !p.isEmpty from rfl)
  generalize pieces 32 s.data.toList = l at *
  obtain ⟨a, cap, rfl, hsl, _⟩ := own_sl hown
  clear hown
  go_wp2_with fail
  go_loopw [3, 5] (fun u3 u5 wr => GatherRel l w1 u3 u5 wr) (fun _ u5 _ => l.length - (intOf u5).toNat)
  case atStart => exact ⟨0, by omega, rfl, World.ownsRow_nil _ _ _ _, Below.refl _ _⟩
  case round =>
    obtain ⟨k, hk, rfl, hown, hbw⟩ := hrel
    by_cases hlt : k < l.length
    · obtain ⟨b, o, rfl, hc⟩ := hsl.at (by omega)
      have hck := hc k (sv (mkS l[k])) (by rw [List.getElem?_map, List.getElem?_eq_getElem hlt]; rfl)
      rw [← hbw.cell (World.block_lt_of_cell? w1 _ hck)] at hck
      have hfs := filter_snoc l k hlt
      have hfl : ((l.take k).filter fun p => !p.isEmpty).length ≤ l.length := by
        have h1 := List.length_filter_le (fun p : List UInt8 => !p.isEmpty) (l.take k)
        rw [List.length_take] at h1; omega
      generalize l[k] = x at *
      have ht := mkS_test x
      obtain ⟨v', w', hap, hown', hgr⟩ := hown.push (mkS x) x rfl (by omega) hbw.size
      have hbw' := hown.below hbw hgr (Nat.le_refl _) hbw.size
      unfold sv at hck
      generalize hsx : mkS x = sx at *
      by_cases hx : x = []
      · have ht1 := ht.1 hx
        rw [if_pos hx, List.append_nil] at hfs
        have HF := Lib.hid hfs
        clear ht hfs hx hsx hc
        go_wp2_with fail
        exact ⟨⟨k + 1, by omega, by go_num, by rw [HF.out]; exact hown, hbw⟩, by simp [intOf]; omega⟩
      · obtain ⟨ht1, ht2⟩ := ht.2 hx
        rw [if_neg hx] at hfs
        have HF := Lib.hid hfs
        clear ht hfs hx hsx hc
        go_wp2_with (at_builtin; refine wpList_append_run rfl _ _ _ rfl hap ?_)
        exact ⟨⟨k + 1, by omega, by go_num, by rw [HF.out]; exact hown', hbw'⟩, by simp [intOf]; omega⟩
    · obtain rfl : k = l.length := by omega
      rw [List.take_length, ← HW.out] at hown
      go_wp2_with fail
      go_ret
      exact ⟨_, rfl, hown.base hb1.size, hb1.trans (hbw.mono hb1.size)⟩
theorem own_prefix {w : World} {B : Nat} {e : TypeId} {a : Option Addr} {n cap m : Nat} {xs : List Value} (h : w.ownsRow B e 1 (.slice a n cap) n xs) (h0 : 0 < n) (hm : m ≤ n) : w.ownsRow B e 1 (.slice a m cap) m (xs.take m) := by
  have hl : xs.length = n := by have := h.1; simpa using this
  refine ⟨by rw [List.length_take]; omega, ?_⟩
  rcases h.2 with ⟨_, h2⟩ | ⟨g, cap', cur, hv, hb, hg, h1, h2, h3, h4⟩
  · omega
  · cases hv
    refine .inr ⟨g, _, cur, rfl, hb, hg, by omega, h2, h3, ?_⟩
    rw [← h4, List.take_take]
    congr 1
    omega

set_option maxRecDepth 100000 in
set_option maxHeartbeats 1000000 in
theorem lines_any (s : ByteArray) (w : World) (hs : s.size ≤ 100000000) :
    Calls Try.prog 35 #[.string s] w fun e w' => ∃ v, e = .returned v ∧ OwnS w' w.heap.size v (linesL s.data.toList) ∧ Below w.heap.size w w' := by
  obtain ⟨r, hr⟩ : ∃ r, r = linesL s.data.toList := ⟨_, rfl⟩
  rw [← hr]
  have HR := Lib.hid hr
  clear hr
  go_enter Try.func35, Try.ntmps35
  go_wp2_with fail
  refine (split_any s 10 10 w hs rfl).mono ?_
  rintro e w1 ⟨v, rfl, hown, hb1⟩
  have hpl := pieces_len 10 s.data.toList
  rw [bytes_len] at hpl
  unfold linesL at HR
  unfold pieces at HR hown hpl
  generalize (fwd 10 s.data.toList).1 = d at *
  generalize (fwd 10 s.data.toList).2 = x at *
  obtain ⟨a, cap, rfl, hsl, hcap⟩ := own_sl hown
  have hn : (d ++ [x]).length = d.length + 1 := by simp
  rw [hn] at hsl hcap hpl
  obtain ⟨b, o, rfl, hc⟩ := hsl.at (by omega)
  have hck := hc d.length (sv (mkS x)) (by simp)
  have ht := mkS_test x
  unfold sv at hck
  have hpre := own_prefix (m := d.length) hown (by rw [hn]; omega) (by rw [hn]; omega)
  have hpre2 : OwnS w1 w.heap.size (.slice (some ⟨b, o, none⟩) d.length cap) d := by
    unfold OwnS
    have e : ((d ++ [x]).map fun x => sv (mkS x)).take d.length = d.map fun x => sv (mkS x) := by
      rw [List.map_append, List.take_append_of_le_length (by simp), List.take_of_length_le (by simp)]
    rw [e] at hpre
    exact hpre
  have HN := Lib.hid hn
  have hn' : ((d ++ [x]).length : Int) = (d.length : Int) + 1 := by rw [hn]; omega
  have hown2 := hown
  rw [hn] at hown2
  have HO := Lib.hid hown2
  clear hown2
  have HP := Lib.hid hpre2
  generalize hsx : mkS x = sx at *
  by_cases hx : x = []
  · have ht1 := ht.1 hx
    rw [if_pos hx] at HR
    clear ht hsx hc hpre hpre2 hown hn
    go_wp2_with fail
    go_ret
    exact ⟨_, rfl, by rw [HR.out]; exact HP.out, hb1⟩
  · obtain ⟨ht1, ht2⟩ := ht.2 hx
    rw [if_neg hx] at HR
    clear ht hsx hc hpre hpre2 hown hn
    go_wp2_with fail
    go_ret
    exact ⟨_, rfl, by rw [HR.out]; exact HO.out, hb1⟩
set_option maxRecDepth 100000 in
set_option maxHeartbeats 1000000 in
theorem refLines_any (s : ByteArray) (w : World) (hs : s.size ≤ 100000000) :
    Calls Try.prog 36 #[.string s] w fun e w' => ∃ v, e = .returned v ∧ OwnS w' w.heap.size v (linesL s.data.toList) ∧ Below w.heap.size w w' := by
  obtain ⟨r, hr⟩ : ∃ r, r = linesL s.data.toList := ⟨_, rfl⟩
  rw [← hr]
  have HR := Lib.hid hr
  clear hr
  go_enter Try.func36, Try.ntmps36
  go_wp2_with fail
  refine (refPieces_any s 10 10 w hs rfl).mono ?_
  rintro e w1 ⟨v, rfl, hown, hb1⟩
  have hpl := pieces_len 10 s.data.toList
  rw [bytes_len] at hpl
  unfold linesL at HR
  unfold pieces at HR hown hpl
  generalize (fwd 10 s.data.toList).1 = d at *
  generalize (fwd 10 s.data.toList).2 = x at *
  obtain ⟨a, cap, rfl, hsl, hcap⟩ := own_sl hown
  have hn : (d ++ [x]).length = d.length + 1 := by simp
  rw [hn] at hsl hcap hpl
  obtain ⟨b, o, rfl, hc⟩ := hsl.at (by omega)
  have hck := hc d.length (sv (mkS x)) (by simp)
  have ht := mkS_test x
  unfold sv at hck
  have hpre := own_prefix (m := d.length) hown (by rw [hn]; omega) (by rw [hn]; omega)
  have hpre2 : OwnS w1 w.heap.size (.slice (some ⟨b, o, none⟩) d.length cap) d := by
    unfold OwnS
    have e : ((d ++ [x]).map fun x => sv (mkS x)).take d.length = d.map fun x => sv (mkS x) := by
      rw [List.map_append, List.take_append_of_le_length (by simp), List.take_of_length_le (by simp)]
    rw [e] at hpre
    exact hpre
  have HN := Lib.hid hn
  have hn' : ((d ++ [x]).length : Int) = (d.length : Int) + 1 := by rw [hn]; omega
  have hown2 := hown
  rw [hn] at hown2
  have HO := Lib.hid hown2
  clear hown2
  have HP := Lib.hid hpre2
  generalize hsx : mkS x = sx at *
  by_cases hx : x = []
  · have ht1 := ht.1 hx
    rw [if_pos hx] at HR
    clear ht hsx hc hpre hpre2 hown hn
    go_wp2_with fail
    go_ret
    exact ⟨_, rfl, by rw [HR.out]; exact HP.out, hb1⟩
  · obtain ⟨ht1, ht2⟩ := ht.2 hx
    rw [if_neg hx] at HR
    clear ht hsx hc hpre hpre2 hown hn
    go_wp2_with fail
    go_ret
    exact ⟨_, rfl, by rw [HR.out]; exact HO.out, hb1⟩

set_option maxRecDepth 100000 in
set_option maxHeartbeats 1000000 in
theorem sameS_any (a a' : Option Addr) (n cap cap' : Nat) (l : List ByteArray) (w : World) (h : Ss w a n l) (h' : Ss w a' n l) (hn : n ≤ 1000000000) :
    Calls Try.prog 32 #[.slice a n cap, .slice a' n cap'] w fun e w' => e = .returned (.bool true) ∧ Below w.heap.size w w' := by
  have hl := Lib.hid h.len
  go_enter Try.func32, Try.ntmps32
  go_wp2_with fail
  go_loopw [13] (fun u13 wr => ∃ k : Nat, k ≤ n ∧ u13 = .int .i64 k ∧ Below w.heap.size w wr) (fun u13 _ => n - (intOf u13).toNat)
  case atStart => exact ⟨0, by omega, rfl, Below.refl _ _⟩
  case round =>
    obtain ⟨k, hk, rfl, hbw⟩ := hrel
    by_cases hlt : k < n
    · have hll := hl.out
      obtain ⟨b, o, rfl, hc⟩ := Sl.at h (by omega)
      obtain ⟨b', o', rfl, hc'⟩ := Sl.at h' (by omega)
      have hck := hc k (sv l[k]) (by rw [List.getElem?_map, List.getElem?_eq_getElem (by omega)]; rfl)
      have hck' := hc' k (sv l[k]) (by rw [List.getElem?_map, List.getElem?_eq_getElem (by omega)]; rfl)
      rw [← hbw.cell (World.block_lt_of_cell? w _ hck)] at hck
      rw [← hbw.cell (World.block_lt_of_cell? w _ hck')] at hck'
      generalize l[k] = x at *
      unfold sv at hck hck'
      clear hc hc' hll
      go_wp2_with fail
      go_quiet (fail)
      go_wp2_with fail
      exact ⟨⟨k + 1, by omega, by go_num, below_drewN hbw _⟩, by simp [intOf]; omega⟩
    · go_wp2_with fail
      go_ret
      exact ⟨rfl, hbw⟩

end Go.Proofs.Ytljbehndnledpaa
