/- A tree of versions as nested rows: what Set, Delete and Floor come to. No program. -/
import Derived.Test.YtejhbaeeaejcaaaGreatProg
import Derived.WalkKit
import Derived.WalkSpells
import Derived.WalkLawsBesides
import Derived.Laws.BitsAllLaws
import Derived.BigQuiet
import Derived.Deep.QuietTactic
import Derived.Lib.Hide
import Derived.Laws.IdiomStrings
import Derived.Lib.Small
import Derived.Deep.RegionHeld
namespace Go.Proofs.YtejhbaeeaejcaaaGreat

/-- A key's number, and where its block is. -/
abbrev En := Nat × Nat
/-- Keys rise. -/
def Rise (l : List En) : Prop := l.Pairwise fun a b => a.1 < b.1

/-- A row with an entry, instead of that of its key, if there is one. -/
def setE : List En → En → List En
  | [], e => [e]
  | x :: l, e => if x.1 < e.1 then x :: setE l e else if x.1 = e.1 then e :: l else e :: x :: l
/-- A row without the entry of a key. -/
def delE : List En → Nat → List En
  | [], _ => []
  | x :: l, k => if x.1 < k then x :: delE l k else if x.1 = k then l else x :: l
/-- The entry of a key. -/
def getE : List En → Nat → Option En
  | [], _ => none
  | x :: l, k => if x.1 = k then some x else getE l k
/-- The last entry whose key isn't behind one. -/
def floorE (l : List En) (k : Nat) : Option En := (l.filter fun x => decide (x.1 ≤ k)).getLast?

theorem Rise.left {a b : List En} (h : Rise (a ++ b)) : Rise a := (List.pairwise_append.1 h).1
theorem Rise.right {a b : List En} (h : Rise (a ++ b)) : Rise b := (List.pairwise_append.1 h).2.1
theorem Rise.cross {a b : List En} (h : Rise (a ++ b)) : ∀ x ∈ a, ∀ y ∈ b, x.1 < y.1 := (List.pairwise_append.1 h).2.2

theorem setE_mem {l : List En} {e x : En} (h : x ∈ setE l e) : x = e ∨ x ∈ l := by
  induction l with
  | nil => simp [setE] at h; exact .inl h
  | cons y l ih =>
    unfold setE at h
    split at h
    · rcases List.mem_cons.1 h with h | h
      · exact .inr (by simp [h])
      · rcases ih h with h | h
        · exact .inl h
        · exact .inr (by simp [h])
    · split at h
      · rcases List.mem_cons.1 h with h | h
        · exact .inl h
        · exact .inr (by simp [h])
      · rcases List.mem_cons.1 h with h | h
        · exact .inl h
        · exact .inr h
theorem setE_rise {l : List En} {e : En} (h : Rise l) : Rise (setE l e) := by
  induction l with
  | nil => simp [setE, Rise]
  | cons y l ih =>
    unfold setE
    unfold Rise at h ih ⊢
    rw [List.pairwise_cons] at h
    split
    · rename_i h1
      rw [List.pairwise_cons]
      refine ⟨fun x hx => ?_, ih h.2⟩
      rcases setE_mem hx with rfl | hx
      · exact h1
      · exact h.1 x hx
    · split
      · rename_i h1 h2
        rw [List.pairwise_cons]
        exact ⟨fun x hx => by have := h.1 x hx; omega, h.2⟩
      · rename_i h1 h2
        rw [List.pairwise_cons, List.pairwise_cons]
        refine ⟨fun x hx => ?_, h⟩
        rcases List.mem_cons.1 hx with rfl | hx
        · omega
        · have := h.1 x hx; omega
/-- Set in the middle part of a row. -/
theorem setE_mid {a m b : List En} {e : En} (ha : ∀ x ∈ a, x.1 < e.1) (hb : ∀ y ∈ b, e.1 < y.1) : setE (a ++ m ++ b) e = a ++ setE m e ++ b := by
  induction a with
  | nil =>
    simp only [List.nil_append]
    induction m with
    | nil =>
      simp only [List.nil_append, setE]
      cases b with
      | nil => rfl
      | cons y b =>
        have := hb y (by simp)
        unfold setE
        rw [if_neg (by omega), if_neg (by omega)]
        rfl
    | cons x m ih =>
      simp only [List.cons_append]
      unfold setE
      split
      · rw [ih]; rfl
      · split <;> rfl
  | cons x a ih =>
    have := ha x (by simp)
    simp only [List.cons_append]
    rw [setE, if_pos this, ih (fun z hz => ha z (by simp [hz]))]
theorem delE_mid {a m b : List En} {k : Nat} (ha : ∀ x ∈ a, x.1 < k) (hb : ∀ y ∈ b, k < y.1) : delE (a ++ m ++ b) k = a ++ delE m k ++ b := by
  induction a with
  | nil =>
    simp only [List.nil_append]
    induction m with
    | nil =>
      simp only [List.nil_append, delE]
      cases b with
      | nil => rfl
      | cons y b =>
        have := hb y (by simp)
        unfold delE
        rw [if_neg (by omega), if_neg (by omega)]
    | cons x m ih =>
      simp only [List.cons_append]
      unfold delE
      split
      · rw [ih]; rfl
      · split <;> rfl
  | cons x a ih =>
    have := ha x (by simp)
    simp only [List.cons_append]
    rw [delE, if_pos this, ih (fun z hz => ha z (by simp [hz]))]
theorem delE_sub (l : List En) (k : Nat) : (delE l k).Sublist l := by
  induction l with
  | nil => exact List.Sublist.refl _
  | cons x l ih =>
    unfold delE
    split
    · exact List.Sublist.cons_cons x ih
    · split
      · exact List.sublist_cons_self x l
      · exact List.Sublist.refl _
theorem delE_rise {l : List En} {k : Nat} (h : Rise l) : Rise (delE l k) := h.sublist (delE_sub l k)
theorem delE_len {l : List En} {k : Nat} (h : Rise l) : (delE l k).length + (if (getE l k).isSome then 1 else 0) = l.length := by
  induction l with
  | nil => simp [delE, getE]
  | cons x l ih =>
    unfold Rise at h
    rw [List.pairwise_cons] at h
    unfold delE getE
    by_cases h1 : x.1 = k
    · rw [if_neg (by omega), if_pos h1, if_pos h1]; simp
    · rw [if_neg h1, if_neg h1]
      by_cases h2 : x.1 < k
      · rw [if_pos h2]
        have := ih h.2
        simp only [List.length_cons]
        omega
      · rw [if_neg h2]
        have : getE l k = none := by
          have hall : ∀ y ∈ l, y.1 ≠ k := fun y hy => by have := h.1 y hy; omega
          clear ih h
          induction l with
          | nil => rfl
          | cons y l ih =>
            unfold getE
            rw [if_neg (hall y (by simp)), ih (fun z hz => hall z (by simp [hz]))]
        rw [this]
        simp
theorem setE_len (l : List En) (e : En) (h : Rise l) : (setE l e).length = l.length + (if (getE l e.1).isSome then 0 else 1) := by
  induction l with
  | nil => simp [setE, getE]
  | cons x l ih =>
    unfold Rise at h
    rw [List.pairwise_cons] at h
    unfold setE getE
    by_cases h1 : x.1 = e.1
    · rw [if_neg (by omega), if_pos h1, if_pos h1]; simp
    · rw [if_neg h1, if_neg h1]
      by_cases h2 : x.1 < e.1
      · rw [if_pos h2]
        have := ih h.2
        simp only [List.length_cons]
        omega
      · rw [if_neg h2]
        have : getE l e.1 = none := by
          have hall : ∀ y ∈ l, y.1 ≠ e.1 := fun y hy => by have := h.1 y hy; omega
          clear ih h
          induction l with
          | nil => rfl
          | cons y l ih =>
            unfold getE
            rw [if_neg (hall y (by simp)), ih (fun z hz => hall z (by simp [hz]))]
        rw [this]
        simp
theorem getE_mid {a m b : List En} {k : Nat} (ha : ∀ x ∈ a, x.1 < k) (hb : ∀ y ∈ b, k < y.1) : getE (a ++ m ++ b) k = getE m k := by
  induction a with
  | nil =>
    simp only [List.nil_append]
    induction m with
    | nil =>
      simp only [List.nil_append]
      induction b with
      | nil => rfl
      | cons y b ih =>
        have := hb y (by simp)
        unfold getE
        rw [if_neg (by omega), ih (fun z hz => hb z (by simp [hz]))]
        rfl
    | cons x m ih =>
      simp only [List.cons_append]
      unfold getE
      rw [ih]
  | cons x a ih =>
    have := ha x (by simp)
    simp only [List.cons_append]
    rw [getE, if_neg (by omega), ih (fun z hz => ha z (by simp [hz]))]

/-- A tree of a depth: rows of rows. -/
def Tr : Nat → Type
  | 0 => List En
  | d + 1 => List (Tr d)
def rowT (t : Tr 0) : List En := t
def kidsT {d : Nat} (t : Tr (d + 1)) : List (Tr d) := t
def mkT {d : Nat} (ks : List (Tr d)) : Tr (d + 1) := ks
def leafT (es : List En) : Tr 0 := es
@[simp] theorem kids_mk {d : Nat} (ks : List (Tr d)) : kidsT (mkT ks) = ks := rfl
@[simp] theorem row_leaf (es : List En) : rowT (leafT es) = es := rfl
def flatT : {d : Nat} → Tr d → List En
  | 0, t => rowT t
  | _ + 1, t => (kidsT t).flatMap flatT
def firstT : {d : Nat} → Tr d → Nat
  | 0, t => ((rowT t).head?.map (·.1)).getD 0
  | _ + 1, t => ((kidsT t).head?.map firstT).getD 0
/-- The keys of a node: of its entries, or the first one of each child. -/
def keysT : {d : Nat} → Tr d → List Nat
  | 0, t => (rowT t).map (·.1)
  | _ + 1, t => (kidsT t).map firstT
def lenT : {d : Nat} → Tr d → Nat
  | 0, t => (rowT t).length
  | _ + 1, t => (kidsT t).length
/-- Each node below has three to six members. -/
def KidsT : {d : Nat} → Tr d → Prop
  | 0, _ => True
  | _ + 1, t => ∀ k ∈ kidsT t, 3 ≤ lenT k ∧ lenT k ≤ 6 ∧ KidsT k
structure FullT {d : Nat} (t : Tr d) : Prop where
  lo : 3 ≤ lenT t
  hi : lenT t ≤ 6
  kids : KidsT t
theorem FullT.kid {d : Nat} {t : Tr (d + 1)} (h : KidsT t) {k : Tr d} (hk : k ∈ kidsT t) : FullT k := by
  obtain ⟨h1, h2, h3⟩ := h k hk
  exact ⟨h1, h2, h3⟩
theorem keys_len : {d : Nat} → (t : Tr d) → (keysT t).length = lenT t
  | 0, t => by simp [keysT, lenT]
  | _ + 1, t => by simp [keysT, lenT]

/-- The first key is that of the first entry. -/
theorem firstT_eq : ∀ {d : Nat} {t : Tr d}, 0 < lenT t → KidsT t → ∃ x l, flatT t = x :: l ∧ firstT t = x.1
  | 0, t, h, _ => by
    have h : 0 < (rowT t).length := h
    unfold flatT firstT
    cases hk : rowT t with
    | nil => rw [hk] at h; simp at h
    | cons x l => exact ⟨x, l, rfl, rfl⟩
  | d + 1, t, h, hK => by
    have h : 0 < (kidsT t).length := h
    unfold flatT firstT
    cases hk : kidsT t with
    | nil => rw [hk] at h; simp at h
    | cons k ks =>
      obtain ⟨h1, -, h3⟩ := hK k (by rw [hk]; simp)
      obtain ⟨x, l, e1, e2⟩ := firstT_eq (by omega) h3
      exact ⟨x, l ++ ks.flatMap flatT, by rw [List.flatMap_cons, e1]; rfl, e2⟩
theorem FullT.first {d : Nat} {t : Tr d} (h : FullT t) : ∃ x l, flatT t = x :: l ∧ firstT t = x.1 := firstT_eq (by have := h.lo; omega) h.kids

/-- Which member has a key, or would have it: the last one whose key isn't behind it; the first one of none. -/
def kidAt (ks : List Nat) (k : Nat) : Nat := (ks.filter fun x => decide (x ≤ k)).length - 1
theorem kidAt_lt {ks : List Nat} {k : Nat} (h : ks ≠ []) : kidAt ks k < ks.length := by
  unfold kidAt
  have h1 := List.length_filter_le (fun x => decide (x ≤ k)) ks
  have : 0 < ks.length := List.length_pos_iff.2 h
  omega
def RiseN (l : List Nat) : Prop := l.Pairwise (· < ·)
theorem filter_rise {l : List Nat} (h : RiseN l) (k : Nat) : l.filter (fun x => decide (x ≤ k)) = l.take (l.filter fun x => decide (x ≤ k)).length := by
  induction l with
  | nil => rfl
  | cons x l ih =>
    unfold RiseN at h ih
    rw [List.pairwise_cons] at h
    by_cases hx : x ≤ k
    · rw [List.filter_cons_of_pos (by simpa using hx)]
      rw [List.length_cons, List.take_succ_cons]
      rw [← ih h.2]
    · have : l.filter (fun x => decide (x ≤ k)) = [] := by
        rw [List.filter_eq_nil_iff]
        intro y hy
        have := h.1 y hy
        simp; omega
      rw [List.filter_cons_of_neg (by simpa using hx), this]
      rfl
/-- Behind the member that has a key all keys are behind it; its own isn't, unless it is the first one. -/
theorem kidAt_behind {ks : List Nat} (h : RiseN ks) (k j : Nat) (hj : kidAt ks k < j) (x : Nat) (hx : ks[j]? = some x) : k < x := by
  by_cases hxk : x ≤ k
  · exfalso
    have hm : x ∈ ks.filter (fun x => decide (x ≤ k)) := List.mem_filter.2 ⟨List.mem_of_getElem? hx, by simpa using hxk⟩
    rw [filter_rise h k] at hm
    obtain ⟨i, hi⟩ := List.getElem?_of_mem hm
    have hi2 : i < (ks.filter fun x => decide (x ≤ k)).length := by
      have := (List.getElem?_eq_some_iff.1 hi).1
      rw [List.length_take] at this
      omega
    rw [List.getElem?_take_of_lt hi2] at hi
    unfold kidAt at hj
    have hij : i < j := by omega
    have hp := List.pairwise_iff_getElem.1 h i j (List.getElem?_eq_some_iff.1 hi).1 (List.getElem?_eq_some_iff.1 hx).1 hij
    obtain ⟨_, e1⟩ := List.getElem?_eq_some_iff.1 hi
    obtain ⟨_, e2⟩ := List.getElem?_eq_some_iff.1 hx
    rw [e1, e2] at hp
    omega
  · omega
theorem kidAt_own {ks : List Nat} (h : RiseN ks) (k : Nat) (x : Nat) (hx : ks[kidAt ks k]? = some x) (h0 : 0 < kidAt ks k ∨ ∃ y ∈ ks, y ≤ k) : x ≤ k := by
  have hpos : 0 < (ks.filter fun x => decide (x ≤ k)).length := by
    rcases h0 with h0 | ⟨y, hy, hyk⟩
    · unfold kidAt at h0; omega
    · exact List.length_pos_of_mem (List.mem_filter.2 ⟨hy, by simpa using hyk⟩)
  have hlt : kidAt ks k < (ks.filter fun x => decide (x ≤ k)).length := by unfold kidAt; omega
  have e : (ks.filter fun x => decide (x ≤ k))[kidAt ks k]? = some x := by
    rw [filter_rise h k, List.getElem?_take_of_lt hlt]
    exact hx
  have := (List.mem_filter.1 (List.mem_of_getElem? e)).2
  simpa using this

/-- One node of a row, or two, if it is longer than six; none of none. -/
def parts {α β : Type} (f : List α → β) (l : List α) : List β :=
  if l.length = 0 then [] else if l.length ≤ 6 then [f l] else [f (l.take (l.length / 2)), f (l.drop (l.length / 2))]
def setT : {d : Nat} → Tr d → En → List (Tr d)
  | 0, t, e => parts leafT (setE (rowT t) e)
  | _ + 1, t, e => parts mkT ((kidsT t).take (kidAt (keysT t) e.1) ++ ((kidsT t)[kidAt (keysT t) e.1]?.map fun c => setT c e).getD [] ++ (kidsT t).drop (kidAt (keysT t) e.1 + 1))
def joinT : {d : Nat} → Tr d → Tr d → List (Tr d)
  | 0, a, b => parts leafT (rowT a ++ rowT b)
  | _ + 1, a, b => parts mkT (kidsT a ++ kidsT b)
def joinedT {d : Nat} (ks : List (Tr d)) (i : Nat) : List (Tr d) :=
  match ks[i]?, ks[i - 1]?, ks[i - 1 + 1]? with
  | some c, some a, some b => if 3 ≤ lenT c ∨ ks.length < 2 then ks else ks.take (i - 1) ++ joinT a b ++ ks.drop (i - 1 + 2)
  | _, _, _ => ks
def delT : {d : Nat} → Tr d → Nat → List (Tr d)
  | 0, t, k => parts leafT (delE (rowT t) k)
  | _ + 1, t, k => parts mkT (joinedT ((kidsT t).take (kidAt (keysT t) k) ++ ((kidsT t)[kidAt (keysT t) k]?.map fun c => delT c k).getD [] ++ (kidsT t).drop (kidAt (keysT t) k + 1)) (kidAt (keysT t) k))
def floorT : {d : Nat} → Tr d → Nat → Option En
  | 0, t, k => floorE (rowT t) k
  | _ + 1, t, k => ((kidsT t)[kidAt (keysT t) k]?.map fun c => floorT c k).getD none

theorem flat_mk {d : Nat} (ks : List (Tr d)) : flatT (mkT ks) = ks.flatMap flatT := rfl
theorem parts_flat {α β : Type} (f : List α → β) (g : β → List En) (h : List α → List En) (hf : ∀ l, g (f l) = h l) (happ : ∀ a b, h (a ++ b) = h a ++ h b) (h0 : h [] = []) (l : List α) : (parts f l).flatMap g = h l := by
  unfold parts
  split
  · rename_i e
    rw [List.eq_nil_of_length_eq_zero e, h0]; rfl
  · split
    · simp [hf]
    · simp only [List.flatMap_cons, List.flatMap_nil, List.append_nil, hf]
      rw [← happ, List.take_append_drop]
theorem parts_leaf (l : List En) : (parts leafT l).flatMap flatT = l := parts_flat leafT flatT id (fun _ => rfl) (fun _ _ => rfl) rfl l
theorem parts_mk {d : Nat} (l : List (Tr d)) : (parts mkT l).flatMap flatT = l.flatMap flatT := parts_flat mkT flatT (fun l => l.flatMap flatT) (fun _ => rfl) (fun _ _ => List.flatMap_append) rfl l

theorem keys_rise : {d : Nat} → {t : Tr d} → KidsT t → Rise (flatT t) → RiseN (keysT t)
  | 0, t, _, h => by
    unfold RiseN keysT
    rw [List.pairwise_map]
    exact h
  | d + 1, t, hK, h => by
    unfold RiseN keysT
    rw [List.pairwise_map]
    have h' : Rise ((kidsT t).flatMap flatT) := h
    unfold Rise at h'
    rw [List.pairwise_flatMap] at h'
    refine h'.2.imp_of_mem ?_
    intro a b ha hb hab
    obtain ⟨x, l, e1, e2⟩ := (FullT.kid hK ha).first
    obtain ⟨y, m, e3, e4⟩ := (FullT.kid hK hb).first
    rw [e2, e4]
    exact hab x (by rw [e1]; simp) y (by rw [e3]; simp)
theorem first_le : {d : Nat} → {t : Tr d} → FullT t → Rise (flatT t) → ∀ x ∈ flatT t, firstT t ≤ x.1 := by
  intro d t h hr x hx
  obtain ⟨y, l, e1, e2⟩ := h.first
  rw [e1] at hx hr
  unfold Rise at hr
  rw [List.pairwise_cons] at hr
  rw [e2]
  rcases List.mem_cons.1 hx with rfl | hx
  · exact Nat.le_refl _
  · exact Nat.le_of_lt (hr.1 x hx)
theorem kid_split {d : Nat} (ks : List (Tr d)) (i : Nat) (c : Tr d) (hc : ks[i]? = some c) : ks.flatMap flatT = (ks.take i).flatMap flatT ++ flatT c ++ (ks.drop (i + 1)).flatMap flatT := by
  have h1 : ks = ks.take i ++ c :: ks.drop (i + 1) := by
    obtain ⟨hi, e⟩ := List.getElem?_eq_some_iff.1 hc
    rw [← e, ← List.drop_eq_getElem_cons hi, List.take_append_drop]
  conv => lhs; rw [h1]
  rw [List.flatMap_append, List.flatMap_cons, List.append_assoc]
/-- The member of a key: all ahead of it are ahead of the key, all behind it behind. -/
theorem kid_mid {d : Nat} {t : Tr (d + 1)} (hK : KidsT t) (hr : Rise (flatT t)) (k : Nat) {c : Tr d} (hc : (kidsT t)[kidAt (keysT t) k]? = some c) :
    (∀ x ∈ ((kidsT t).take (kidAt (keysT t) k)).flatMap flatT, x.1 < k) ∧ (∀ y ∈ ((kidsT t).drop (kidAt (keysT t) k + 1)).flatMap flatT, k < y.1) ∧ (kidAt (keysT t) k ≠ 0 → firstT c ≤ k) := by
  have hkr := keys_rise hK hr
  have hkey : ∀ (j : Nat) (c' : Tr d), (kidsT t)[j]? = some c' → (keysT t)[j]? = some (firstT c') := fun j c' h => by
    show ((kidsT t).map firstT)[j]? = _
    rw [List.getElem?_map, h]; rfl
  have hown : kidAt (keysT t) k ≠ 0 → firstT c ≤ k := fun h0 => kidAt_own hkr k _ (hkey _ _ hc) (.inl (by omega))
  have hr' : Rise ((kidsT t).flatMap flatT) := hr
  have hsp := kid_split (kidsT t) _ c hc
  refine ⟨fun x hx => ?_, fun y hy => ?_, hown⟩
  · have h0 : kidAt (keysT t) k ≠ 0 := by
      intro e
      rw [e] at hx
      simp at hx
    have hcm : c ∈ kidsT t := List.mem_of_getElem? hc
    obtain ⟨y, l, e1, e2⟩ := (FullT.kid hK hcm).first
    rw [hsp, List.append_assoc] at hr'
    have := hr'.cross x hx y (by rw [e1]; simp)
    have := hown h0
    omega
  · obtain ⟨c', hc', hyc⟩ := List.mem_flatMap.1 hy
    obtain ⟨j, hj⟩ := List.getElem?_of_mem hc'
    rw [List.getElem?_drop] at hj
    have hb := kidAt_behind hkr k (kidAt (keysT t) k + 1 + j) (by omega) _ (hkey _ _ hj)
    have hr2 : Rise (flatT c') := by
      unfold Rise at hr'
      rw [List.pairwise_flatMap] at hr'
      exact hr'.1 c' (List.mem_of_getElem? hj)
    have := first_le (FullT.kid hK (List.mem_of_getElem? hj)) hr2 y hyc
    omega
theorem kid_some {d : Nat} {t : Tr (d + 1)} (h : 0 < lenT t) (k : Nat) : ∃ c, (kidsT t)[kidAt (keysT t) k]? = some c := by
  have hl := keys_len t
  have : kidAt (keysT t) k < (kidsT t).length := by
    have h2 : keysT t ≠ [] := fun e => by rw [e] at hl; simp at hl; omega
    have := kidAt_lt (k := k) h2
    rw [hl] at this
    exact this
  exact ⟨_, List.getElem?_eq_getElem this⟩
theorem kid_rise {d : Nat} {t : Tr (d + 1)} (hr : Rise (flatT t)) {c : Tr d} (hc : c ∈ kidsT t) : Rise (flatT c) := by
  have hr' : Rise ((kidsT t).flatMap flatT) := hr
  unfold Rise at hr'
  rw [List.pairwise_flatMap] at hr'
  exact hr'.1 c hc

theorem set_flat : {d : Nat} → {t : Tr d} → 0 < lenT t → KidsT t → Rise (flatT t) → (e : En) → (setT t e).flatMap flatT = setE (flatT t) e
  | 0, t, _, _, _, e => by
    unfold setT
    rw [parts_leaf]; rfl
  | d + 1, t, h0, hK, hr, e => by
    obtain ⟨c, hc⟩ := kid_some h0 e.1
    obtain ⟨h1, h2, -⟩ := kid_mid hK hr e.1 hc
    have hcm := List.mem_of_getElem? hc
    have hF := FullT.kid hK hcm
    have ih := set_flat (by have := hF.lo; omega) hF.kids (kid_rise hr hcm) e
    unfold setT
    rw [parts_mk, hc]
    simp only [Option.map_some, Option.getD_some]
    rw [List.flatMap_append, List.flatMap_append, ih]
    show _ = setE ((kidsT t).flatMap flatT) e
    rw [kid_split _ _ c hc, setE_mid h1 h2]
theorem floor_flat : {d : Nat} → {t : Tr d} → 0 < lenT t → KidsT t → Rise (flatT t) → (k : Nat) → floorT t k = floorE (flatT t) k
  | 0, t, _, _, _, k => rfl
  | d + 1, t, h0, hK, hr, k => by
    obtain ⟨c, hc⟩ := kid_some h0 k
    obtain ⟨h1, h2, h3⟩ := kid_mid hK hr k hc
    have hcm := List.mem_of_getElem? hc
    have hF := FullT.kid hK hcm
    have ih := floor_flat (by have := hF.lo; omega) hF.kids (kid_rise hr hcm) k
    unfold floorT
    rw [hc]
    simp only [Option.map_some, Option.getD_some]
    rw [ih]
    show _ = floorE ((kidsT t).flatMap flatT) k
    rw [kid_split _ _ c hc]
    unfold floorE
    have hb : (((kidsT t).drop (kidAt (keysT t) k + 1)).flatMap flatT).filter (fun x => decide (x.1 ≤ k)) = [] := by
      rw [List.filter_eq_nil_iff]
      intro y hy
      have := h2 y hy
      simp; omega
    rw [List.filter_append, List.filter_append, hb, List.append_nil, List.getLast?_append]
    by_cases hi : kidAt (keysT t) k = 0
    · rw [hi]
      simp
    · obtain ⟨x, l, e1, e2⟩ := hF.first
      have hx : x ∈ (flatT c).filter (fun x => decide (x.1 ≤ k)) := by
        rw [List.mem_filter]
        exact ⟨by rw [e1]; simp, by have := h3 hi; simp; omega⟩
      have hne : (flatT c).filter (fun x => decide (x.1 ≤ k)) ≠ [] := List.ne_nil_of_mem hx
      rw [List.getLast?_eq_some_getLast hne]
      rfl

/-- What a change of a node leaves: one node, not shorter, or two full ones. -/
def OneTwo {d : Nat} (lo : Nat) (l : List (Tr d)) : Prop := (∃ a, l = [a] ∧ lo ≤ lenT a ∧ lenT a ≤ 6 ∧ KidsT a) ∨ ∃ a b, l = [a, b] ∧ FullT a ∧ FullT b
theorem parts_one {α β : Type} (f : List α → β) {l : List α} (h0 : 0 < l.length) (h6 : l.length ≤ 6) : parts f l = [f l] := by
  unfold parts
  rw [if_neg (by omega), if_pos h6]
theorem parts_two {α β : Type} (f : List α → β) {l : List α} (h6 : 6 < l.length) : parts f l = [f (l.take (l.length / 2)), f (l.drop (l.length / 2))] := by
  unfold parts
  rw [if_neg (by omega), if_neg (by omega)]
theorem parts_leaf_full (l : List En) (lo : Nat) (h0 : 0 < l.length) (h1 : lo ≤ l.length) (h2 : l.length ≤ 12) : OneTwo lo (parts leafT l) := by
  by_cases h6 : l.length ≤ 6
  · rw [parts_one leafT h0 h6]
    exact .inl ⟨_, rfl, h1, h6, trivial⟩
  · rw [parts_two leafT (by omega)]
    refine .inr ⟨_, _, rfl, ⟨?_, ?_, trivial⟩, ⟨?_, ?_, trivial⟩⟩
    · show 3 ≤ (l.take (l.length / 2)).length
      rw [List.length_take]; omega
    · show (l.take (l.length / 2)).length ≤ 6
      rw [List.length_take]; omega
    · show 3 ≤ (l.drop (l.length / 2)).length
      rw [List.length_drop]; omega
    · show (l.drop (l.length / 2)).length ≤ 6
      rw [List.length_drop]; omega
theorem kids_mk_iff {d : Nat} (l : List (Tr d)) : KidsT (mkT l) ↔ ∀ k ∈ l, FullT k := by
  constructor
  · intro h k hk
    exact FullT.kid (t := mkT l) h hk
  · intro h k hk
    exact ⟨(h k hk).lo, (h k hk).hi, (h k hk).kids⟩
theorem parts_mk_full {d : Nat} (l : List (Tr d)) (lo : Nat) (h0 : 0 < l.length) (h1 : lo ≤ l.length) (h2 : l.length ≤ 12) (hF : ∀ k ∈ l, FullT k) : OneTwo lo (parts mkT l) := by
  by_cases h6 : l.length ≤ 6
  · rw [parts_one mkT h0 h6]
    exact .inl ⟨_, rfl, h1, h6, (kids_mk_iff l).2 hF⟩
  · rw [parts_two mkT (by omega)]
    refine .inr ⟨_, _, rfl, ⟨?_, ?_, (kids_mk_iff _).2 fun k hk => hF k (List.mem_of_mem_take hk)⟩, ⟨?_, ?_, (kids_mk_iff _).2 fun k hk => hF k (List.mem_of_mem_drop hk)⟩⟩
    · show 3 ≤ (l.take (l.length / 2)).length
      rw [List.length_take]; omega
    · show (l.take (l.length / 2)).length ≤ 6
      rw [List.length_take]; omega
    · show 3 ≤ (l.drop (l.length / 2)).length
      rw [List.length_drop]; omega
    · show (l.drop (l.length / 2)).length ≤ 6
      rw [List.length_drop]; omega
theorem OneTwo.full {d : Nat} {l : List (Tr d)} (h : OneTwo 3 l) : ∀ k ∈ l, FullT k := by
  rcases h with ⟨a, rfl, h1, h2, h3⟩ | ⟨a, b, rfl, h1, h2⟩
  · intro k hk
    simp at hk
    subst hk
    exact ⟨h1, h2, h3⟩
  · intro k hk
    simp at hk
    rcases hk with rfl | rfl
    · exact h1
    · exact h2
theorem OneTwo.len {d lo : Nat} {l : List (Tr d)} (h : OneTwo lo l) : 1 ≤ l.length ∧ l.length ≤ 2 := by
  rcases h with ⟨a, rfl, -⟩ | ⟨a, b, rfl, -⟩ <;> simp
theorem OneTwo.mono {d lo lo' : Nat} {l : List (Tr d)} (h : OneTwo lo l) (hl : lo' ≤ lo) : OneTwo lo' l := by
  rcases h with ⟨a, e, h1, h2⟩ | h
  · exact .inl ⟨a, e, by omega, h2⟩
  · exact .inr h
theorem set_full : {d : Nat} → {t : Tr d} → 0 < lenT t → lenT t ≤ 6 → KidsT t → Rise (flatT t) → (e : En) → OneTwo (lenT t) (setT t e)
  | 0, t, h0, h6, _, hr, e => by
    have hl := setE_len (rowT t) e hr
    have h0' : 0 < (rowT t).length := h0
    have h6' : (rowT t).length ≤ 6 := h6
    unfold setT
    exact parts_leaf_full _ _ (by split at hl <;> omega) (by show (rowT t).length ≤ _; split at hl <;> omega) (by split at hl <;> omega)
  | d + 1, t, h0, h6, hK, hr, e => by
    obtain ⟨c, hc⟩ := kid_some h0 e.1
    have hcm := List.mem_of_getElem? hc
    have hF := FullT.kid hK hcm
    have ih := (set_full (by have := hF.lo; omega) hF.hi hF.kids (kid_rise hr hcm) e).mono hF.lo
    have hlt := (List.getElem?_eq_some_iff.1 hc).1
    have h6' : (kidsT t).length ≤ 6 := h6
    have hln := ih.len
    unfold setT
    rw [hc]
    simp only [Option.map_some, Option.getD_some]
    refine parts_mk_full _ _ ?_ ?_ ?_ ?_
    · simp only [List.length_append, List.length_take, List.length_drop]; omega
    · show (kidsT t).length ≤ _
      simp only [List.length_append, List.length_take, List.length_drop]; omega
    · simp only [List.length_append, List.length_take, List.length_drop]; omega
    · intro k hk
      rcases List.mem_append.1 hk with hk | hk
      · rcases List.mem_append.1 hk with hk | hk
        · exact FullT.kid hK (List.mem_of_mem_take hk)
        · exact ih.full k hk
      · exact FullT.kid hK (List.mem_of_mem_drop hk)

/-- Two nodes joined. -/
theorem join_full : {d : Nat} → {a b : Tr d} → KidsT a → KidsT b → 2 ≤ lenT a → 3 ≤ lenT a + lenT b → lenT a ≤ 6 → lenT b ≤ 6 → OneTwo 3 (joinT a b)
  | 0, a, b, _, _, h1, h2, h3, h4 => by
    have e1 : lenT a = (rowT a).length := rfl
    have e2 : lenT b = (rowT b).length := rfl
    unfold joinT
    exact parts_leaf_full _ _ (by simp; omega) (by simp; omega) (by simp; omega)
  | d + 1, a, b, ha, hb, h1, h2, h3, h4 => by
    have e1 : lenT a = (kidsT a).length := rfl
    have e2 : lenT b = (kidsT b).length := rfl
    unfold joinT
    refine parts_mk_full _ _ (by simp; omega) (by simp; omega) (by simp; omega) fun k hk => ?_
    rcases List.mem_append.1 hk with hk | hk
    · exact FullT.kid ha hk
    · exact FullT.kid hb hk
theorem join_flat : {d : Nat} → (a b : Tr d) → (joinT a b).flatMap flatT = flatT a ++ flatT b
  | 0, a, b => by unfold joinT; rw [parts_leaf]; rfl
  | d + 1, a, b => by unfold joinT; rw [parts_mk, List.flatMap_append]; rfl

/-- Children of which one may be too short: behind the joining all are full, and they are as many, or one less. -/
theorem joined_full {d : Nat} (ks : List (Tr d)) (i : Nat) (c : Tr d) (hc : ks[i]? = some c) (h2 : 2 ≤ ks.length) (hcl : 2 ≤ lenT c) (hcu : lenT c ≤ 6) (hck : KidsT c) (hF : ∀ j k, j ≠ i → ks[j]? = some k → FullT k) :
    (∀ k ∈ joinedT ks i, FullT k) ∧ (joinedT ks i).flatMap flatT = ks.flatMap flatT ∧ ks.length - 1 ≤ (joinedT ks i).length ∧ (joinedT ks i).length ≤ ks.length := by
  have hi := (List.getElem?_eq_some_iff.1 hc).1
  obtain ⟨a, ha⟩ : ∃ a, ks[i - 1]? = some a := ⟨_, List.getElem?_eq_getElem (by omega)⟩
  obtain ⟨b, hb⟩ : ∃ b, ks[i - 1 + 1]? = some b := ⟨_, List.getElem?_eq_getElem (by omega)⟩
  unfold joinedT
  rw [hc, ha, hb]
  simp only
  by_cases h3 : 3 ≤ lenT c
  · rw [if_pos (.inl h3)]
    refine ⟨fun k hk => ?_, rfl, by omega, Nat.le_refl _⟩
    obtain ⟨j, hj⟩ := List.getElem?_of_mem hk
    by_cases e : j = i
    · subst e
      rw [hc] at hj
      cases hj
      exact ⟨h3, hcu, hck⟩
    · exact hF j k e hj
  · rw [if_neg (by omega)]
    have hab : KidsT a ∧ KidsT b ∧ 2 ≤ lenT a ∧ 3 ≤ lenT a + lenT b ∧ lenT a ≤ 6 ∧ lenT b ≤ 6 := by
      by_cases e0 : i = 0
      · subst e0
        have : a = c := by rw [hc] at ha; exact (Option.some.inj ha).symm
        subst this
        have hb' := hF 1 b (by omega) hb
        exact ⟨hck, hb'.kids, hcl, by have := hb'.lo; omega, hcu, hb'.hi⟩
      · have : b = c := by
          rw [show i - 1 + 1 = i by omega, hc] at hb
          exact (Option.some.inj hb).symm
        subst this
        have ha' := hF (i - 1) a (by omega) ha
        exact ⟨ha'.kids, hck, by have := ha'.lo; omega, by have := ha'.lo; omega, ha'.hi, hcu⟩
    have hJ := join_full hab.1 hab.2.1 hab.2.2.1 hab.2.2.2.1 hab.2.2.2.2.1 hab.2.2.2.2.2
    have hln := hJ.len
    have hb1 := (List.getElem?_eq_some_iff.1 hb).1
    have hout : ∀ j k, (j < i - 1 ∨ i - 1 + 2 ≤ j) → ks[j]? = some k → FullT k := fun j k hj hk => hF j k (by omega) hk
    refine ⟨fun k hk => ?_, ?_, ?_, ?_⟩
    · rcases List.mem_append.1 hk with hk | hk
      · rcases List.mem_append.1 hk with hk | hk
        · obtain ⟨j, hj⟩ := List.getElem?_of_mem hk
          have hjl := (List.getElem?_eq_some_iff.1 hj).1
          rw [List.length_take] at hjl
          rw [List.getElem?_take_of_lt (by omega)] at hj
          exact hout j k (by omega) hj
        · exact hJ.full k hk
      · obtain ⟨j, hj⟩ := List.getElem?_of_mem hk
        rw [List.getElem?_drop] at hj
        exact hout _ k (by omega) hj
    · have e1 : ks = ks.take (i - 1) ++ a :: b :: ks.drop (i - 1 + 2) := by
        obtain ⟨h1', e⟩ := List.getElem?_eq_some_iff.1 ha
        obtain ⟨h2', e'⟩ := List.getElem?_eq_some_iff.1 hb
        rw [← e', show ks.drop (i - 1 + 2) = ks.drop (i - 1 + 1 + 1) from rfl, ← List.drop_eq_getElem_cons h2', ← e, ← List.drop_eq_getElem_cons h1', List.take_append_drop]
      rw [List.flatMap_append, List.flatMap_append, join_flat]
      conv => rhs; rw [e1]
      simp [List.flatMap_append, List.flatMap_cons]
    · simp only [List.length_append, List.length_take, List.length_drop]; omega
    · simp only [List.length_append, List.length_take, List.length_drop]; omega

/-- Delete: one node, at most one shorter. -/
theorem del_full : {d : Nat} → {t : Tr d} → 2 ≤ lenT t → lenT t ≤ 6 → KidsT t → Rise (flatT t) → (k : Nat) → (getE (flatT t) k).isSome = true →
    ∃ a, delT t k = [a] ∧ lenT t - 1 ≤ lenT a ∧ lenT a ≤ lenT t ∧ KidsT a ∧ flatT a = delE (flatT t) k
  | 0, t, h0, h6, _, hr, k, hg => by
    have hl := delE_len (k := k) hr
    have e0 : flatT t = rowT t := rfl
    rw [e0] at hl hg
    rw [if_pos hg] at hl
    have h0' : 2 ≤ (rowT t).length := h0
    have h6' : (rowT t).length ≤ 6 := h6
    unfold delT
    rw [parts_one leafT (by omega) (by omega)]
    exact ⟨_, rfl, by show (rowT t).length - 1 ≤ (delE (rowT t) k).length; omega, by show (delE (rowT t) k).length ≤ (rowT t).length; omega, trivial, rfl⟩
  | d + 1, t, h0, h6, hK, hr, k, hg => by
    obtain ⟨c, hc⟩ := kid_some (t := t) (by omega) k
    obtain ⟨h1, h2, -⟩ := kid_mid hK hr k hc
    have hcm := List.mem_of_getElem? hc
    have hF := FullT.kid hK hcm
    have hsp : flatT t = _ := kid_split (kidsT t) _ c hc
    rw [hsp, getE_mid h1 h2] at hg
    obtain ⟨a, ea, l1, l2, l3, l4⟩ := del_full (by have := hF.lo; omega) hF.hi hF.kids (kid_rise hr hcm) k hg
    have hlt := (List.getElem?_eq_some_iff.1 hc).1
    have h0' : 2 ≤ (kidsT t).length := h0
    have h6' : (kidsT t).length ≤ 6 := h6
    have hlo := hF.lo
    have hhi := hF.hi
    generalize hi : kidAt (keysT t) k = i at *
    unfold delT
    rw [hi, hc]
    simp only [Option.map_some, Option.getD_some, ea]
    have hset : (kidsT t).take i ++ [a] ++ (kidsT t).drop (i + 1) = (kidsT t).set i a := by
      rw [List.set_eq_take_append_cons_drop, if_pos hlt]
      simp
    rw [hset]
    have hgi : ((kidsT t).set i a)[i]? = some a := by rw [List.getElem?_set_self hlt]
    obtain ⟨j1, j2, j3, j4⟩ := joined_full ((kidsT t).set i a) i a hgi (by rw [List.length_set]; omega) (by omega) (by omega) l3 (fun j k' hj hk => by
      rw [List.getElem?_set_ne (fun e => hj e.symm)] at hk
      exact FullT.kid hK (List.mem_of_getElem? hk))
    rw [List.length_set] at j3 j4
    rw [parts_one mkT (by omega) (by omega)]
    refine ⟨_, rfl, by show (kidsT t).length - 1 ≤ (joinedT _ i).length; exact j3, by show (joinedT _ i).length ≤ (kidsT t).length; exact j4, (kids_mk_iff _).2 j1, ?_⟩
    rw [flat_mk, j2, hsp, delE_mid h1 h2, ← l4, ← hset]
    simp [List.flatMap_append]
end Go.Proofs.YtejhbaeeaejcaaaGreat
/- Plain helpers that all claims of this seat share: numbers, frames, slices of integers that are read. No condition. -/
namespace Go.Proofs.YtejhbaeeaejcaaaGreat
open Go.RowKit

/-- The slice value with address a and length n reads, in w, as the values xs (one cell each). -/
def Sl (w : World) (a : Option Addr) (n : Nat) (xs : List Value) : Prop :=
  xs.length = n ∧ ∀ i x, xs[i]? = some x → ∃ b o, a = some ⟨b, o, none⟩ ∧ w.cell? ⟨b, o + i, none⟩ = some x

theorem Sl.below {B : Nat} {w w' : World} {a : Option Addr} {n : Nat} {xs : List Value} (h : Sl w a n xs) (hb : Below B w w') (hB : w.heap.size ≤ B) : Sl w' a n xs := by
  refine ⟨h.1, fun i x hx => ?_⟩
  obtain ⟨b, o, ha, hc⟩ := h.2 i x hx
  refine ⟨b, o, ha, ?_⟩
  have hlt := World.block_lt_of_cell? w _ hc
  rw [hb.cell (p := ⟨b, o + i, none⟩) (by simp at hlt ⊢; omega)]
  exact hc

/-- A slice of integers of kind k. -/
def Is (k : IntKind) (w : World) (a : Option Addr) (n : Nat) (zs : List Int) : Prop := Sl w a n (zs.map (.int k))

theorem Is.below {B : Nat} {k : IntKind} {w w' : World} {a : Option Addr} {n : Nat} {zs : List Int} (h : Is k w a n zs) (hb : Below B w w') (hB : w.heap.size ≤ B) : Is k w' a n zs :=
  Sl.below h hb hB

theorem Is.len {k : IntKind} {w : World} {a : Option Addr} {n : Nat} {zs : List Int} (h : Is k w a n zs) : zs.length = n := by
  have := h.1; simpa using this

theorem Is.at {k : IntKind} {w : World} {a : Option Addr} {n : Nat} {zs : List Int} (h : Is k w a n zs) (hn : 0 < n) :
    ∃ b o, a = some ⟨b, o, none⟩ ∧ ∀ i, i < n → w.cell? ⟨b, o + i, none⟩ = some (.int k (zs.getD i 0)) := by
  have hl := h.len
  obtain ⟨b, o, ha, _⟩ := h.2 0 _ (by rw [List.getElem?_map, List.getElem?_eq_getElem (by omega)]; rfl)
  refine ⟨b, o, ha, fun i hi => ?_⟩
  obtain ⟨b', o', ha', hc⟩ := h.2 i _ (by rw [List.getElem?_map, List.getElem?_eq_getElem (by omega)]; rfl)
  rw [ha] at ha'
  simp only [Option.some.injEq, Addr.mk.injEq, and_true] at ha'
  obtain ⟨rfl, rfl⟩ := ha'
  rw [hc, List.getD_eq_getElem?_getD, List.getElem?_eq_getElem (by omega)]
  rfl

theorem Is.mk' {k : IntKind} {w : World} {b o n : Nat} {zs : List Int} (hl : zs.length = n) (h : ∀ i, i < n → w.cell? ⟨b, o + i, none⟩ = some (.int k (zs.getD i 0))) :
    Is k w (some ⟨b, o, none⟩) n zs := by
  refine ⟨by simpa using hl, fun i x hx => ⟨b, o, rfl, ?_⟩⟩
  rw [List.getElem?_map] at hx
  have hi : i < zs.length := by
    rcases Nat.lt_or_ge i zs.length with hi | hi
    · exact hi
    · rw [List.getElem?_eq_none hi] at hx; cases hx
  rw [h i (by omega), List.getD_eq_getElem?_getD]
  rw [List.getElem?_eq_getElem hi] at hx ⊢
  simpa using hx

/-- A slice of integers that came in: nil, or a row of cap cells, of which the first len are its elements. -/
def IsRow (k : IntKind) (w : World) (a : Option Addr) (len cap : Nat) (zs : List Int) : Prop :=
  (a = none ∧ len = 0 ∧ cap = 0 ∧ zs = []) ∨
  ∃ x, a = some x ∧ len ≤ cap ∧ cap ≤ maxLen ∧ zs.length = cap ∧ (∀ i, i < zs.length → w.cell? (x.add i) = some (.int k (zs.getD i 0))) ∧ ∀ n ∈ zs, (Lit.int k n).wf = true

theorem IsRow.is {k : IntKind} {w : World} {a : Option Addr} {len cap : Nat} {zs : List Int} (h : IsRow k w a len cap zs) : Is k w a len (zs.take len) := by
  rcases h with ⟨rfl, rfl, rfl, rfl⟩ | ⟨x, rfl, hl, hm, hz, hc, hw⟩
  · exact ⟨by simp, fun i x hx => by simp at hx⟩
  · by_cases h0 : len = 0
    · subst h0; exact ⟨by simp, fun i x hx => by simp at hx⟩
    · obtain ⟨b, off, spot⟩ := x
      have hc0 := hc 0 (by omega)
      have hspot : spot = none := by simpa [Addr.add] using World.cell?_spot hc0
      subst hspot
      refine Is.mk' (by simp; omega) fun i hi => ?_
      have := hc i (by omega)
      rw [List.getD_eq_getElem?_getD, List.getElem?_take, if_pos hi, ← List.getD_eq_getElem?_getD, ← this]
      congr 1
      unfold Addr.add
      split <;> simp_all

theorem IsRow.wf {k : IntKind} {w : World} {a : Option Addr} {len cap : Nat} {zs : List Int} (h : IsRow k w a len cap zs) : ∀ n ∈ zs.take len, (Lit.int k n).wf = true := by
  rcases h with ⟨rfl, rfl, rfl, rfl⟩ | ⟨x, rfl, hl, hm, hz, hc, hw⟩
  · intro n hn; simp at hn
  · exact fun n hn => hw n (List.mem_of_mem_take hn)

theorem cells_new (w : World) (news : List Value) (e : TypeId) : ∀ j u, news[j]? = some u → (w.alloc (.cells news.toArray e)).cell? ((⟨w.heap.size, 0, none⟩ : Addr).add j) = some u := by
  intro j u hu
  have hadd : (⟨w.heap.size, 0, none⟩ : Addr).add j = ⟨w.heap.size, j, none⟩ := by unfold Addr.add; split <;> simp_all
  rw [hadd, World.cell?_alloc_mark]
  simpa using hu

theorem grown_of_alloc {w w' : World} {o : Obj} {row : Option Nat} (h : (w.alloc o).grownBy w' row) : w.grownBy w' row :=
  ⟨h.os, h.tape, h.output, Nat.le_trans (by simp) h.size, fun k hk hne => (h.block k (by simp; omega) hne).trans (heap_alloc_old w o hk)⟩

/-- Things appended to a slice of the call's own: their cells are laid in a new block ahead of it. -/
theorem app_new {P : Program} {w : World} {base : Nat} {t e : TypeId} {i : TypeInfo} {z : Value} {size bytes : Nat} (ht : P.underlying t = some (.slice e)) (hi : P.info? e = some i) (hz : i.zero = some z)
    (hsize : i.size = size) (hby : i.bytes = bytes) (hzs : z.cells.size = size) (hsz : 0 < size) {v : Value} {n : Nat} {xs : List Value} (hown : w.ownsRow base e size v n xs)
    (m : Nat) (news : List Value) (hl : news.length = m * size) (h1 : ∀ u ∈ news, u.oneCell' = true) (h63 : n + m ≤ maxLen) (hbytes : (n + m) * bytes ≤ 140737488355328) (hbase : base ≤ w.heap.size) :
    ∃ v' w', (Builtin.append_ #[t, t] t #[v, .slice (some ⟨w.heap.size, 0, none⟩) m m]).run P (w.alloc (.cells news.toArray e)) = .ok v' w' ∧ w'.ownsRow base e size v' (n + m) (xs ++ news) ∧ w.grownBy w' v.ownBlock ∧ (0 < m → v' ≠ .slice none 0 0) := by
  obtain ⟨v', w', hr, h2, h3, h4⟩ := run_append_own (P := P) (w.alloc (.cells news.toArray e)) base t t e i z size bytes ht hi hz hsize hby hzs hsz v n xs (hown.alloc _) ⟨w.heap.size, 0, none⟩ m m news hl (cells_new w news e) h1 h63 hbytes (by simp; omega)
  exact ⟨v', w', hr, h2, grown_of_alloc h3, fun hm hv => by have := (h4.1 hv).2; omega⟩

theorem Below.own {B : Nat} {w0 w w' : World} {base : Nat} {e : TypeId} {size : Nat} {v : Value} {n : Nat} {xs : List Value} (h : Below B w0 w) (hown : w.ownsRow base e size v n xs) (hg : w.grownBy w' v.ownBlock) (hB : B ≤ base) (hw : B ≤ w.heap.size) : Below B w0 w' :=
  h.grown hg hw fun k hk => by have := (hown.lt k hk).1; omega

theorem ret_int {k : IntKind} {a b : Int} (h : a = b) : Ending.returned (.int k a) = .returned (.int k b) := by rw [h]
theorem ret_bool {a b : Bool} (h : a = b) : Ending.returned (.bool a) = .returned (.bool b) := by rw [h]

/-- a & b + (a ^ b) / 2 is the mean, rounded down. -/
theorem nat_mid (a b : Nat) : (a &&& b) + (a ^^^ b) / 2 = (a + b) / 2 := by
  induction a using Nat.strongRecOn generalizing b with
  | _ a ih =>
    by_cases h : a = 0
    · subst h; simp
    · have h2 := ih (a / 2) (by omega) (b / 2)
      have e1 : (a &&& b) / 2 = a / 2 &&& b / 2 := Nat.and_div_two
      have e2 : (a ^^^ b) / 2 = a / 2 ^^^ b / 2 := Nat.xor_div_two
      have m1 : (a &&& b) % 2 = a % 2 * (b % 2) := by
        have := Nat.and_mod_two_pow (a := a) (b := b) (n := 1)
        simp only [Nat.pow_one] at this
        rw [this]
        rcases Nat.mod_two_eq_zero_or_one a with ha | ha <;> rcases Nat.mod_two_eq_zero_or_one b with hb | hb <;> simp [ha, hb]
      have m2 : (a / 2 ^^^ b / 2) % 2 = (a / 2 + b / 2) % 2 := by
        have := Nat.xor_mod_two_pow (a := a / 2) (b := b / 2) (n := 1)
        simp only [Nat.pow_one] at this
        rw [this]
        rcases Nat.mod_two_eq_zero_or_one (a / 2) with ha | ha <;> rcases Nat.mod_two_eq_zero_or_one (b / 2) with hb | hb <;> simp [ha, hb] <;> omega
      rw [e2]
      have d := Nat.div_add_mod (a &&& b) 2
      rw [e1, m1] at d
      have hx := Nat.div_add_mod (a / 2 ^^^ b / 2) 2
      rw [m2] at hx
      have hp : a % 2 * (b % 2) = if a % 2 = 1 ∧ b % 2 = 1 then 1 else 0 := by
        rcases Nat.mod_two_eq_zero_or_one a with ha | ha <;> rcases Nat.mod_two_eq_zero_or_one b with hb | hb <;> simp [ha, hb]
      rw [hp] at d
      split at d <;> omega

theorem mid_u64 (a b : Int) (h1 : 0 ≤ a) (h2 : a < 18446744073709551616) (h3 : 0 ≤ b) (h4 : b < 18446744073709551616) :
    IntKind.u64.wrap (bits BinOp.and IntKind.u64 a b + bits BinOp.xor IntKind.u64 a b / 2) = (a + b) / 2 := by
  rw [u64_and a b h1 h2 h3 h4, u64_xor a b h1 h2 h3 h4, IntKind.wrap_u64]
  have := nat_mid a.toNat b.toNat
  omega

/-- How often a number can be halved (rounded down) till it is 0. -/
def blF : Nat → Nat → Nat
  | 0, _ => 0
  | f + 1, n => if n = 0 then 0 else blF f (n / 2) + 1
def bl (n : Nat) : Nat := blF n n

theorem blF_eq : ∀ (f g n : Nat), n ≤ f → n ≤ g → blF f n = blF g n := by
  intro f
  induction f with
  | zero =>
    intro g n h _
    have : n = 0 := by omega
    subst this
    cases g <;> simp [blF]
  | succ f ih =>
    intro g n h1 h2
    by_cases h0 : n = 0
    · subst h0; cases g <;> simp [blF]
    · cases g with
      | zero => omega
      | succ g => simp only [blF, if_neg h0]; rw [ih g (n / 2) (by omega) (by omega)]

theorem bl_zero : bl 0 = 0 := rfl

theorem bl_pos (n : Nat) (h : 0 < n) : bl n = bl (n / 2) + 1 := by
  unfold bl
  cases n with
  | zero => omega
  | succ k =>
    simp only [blF, if_neg (Nat.succ_ne_zero k)]
    rw [blF_eq k ((k + 1) / 2) ((k + 1) / 2) (by omega) (by omega)]

theorem bl_mono : ∀ (b a : Nat), a ≤ b → bl a ≤ bl b := by
  intro b
  induction b using Nat.strongRecOn with
  | _ b ih =>
    intro a h
    by_cases hb : b = 0
    · have : a = 0 := by omega
      subst hb; subst this; exact Nat.le_refl _
    · by_cases ha : a = 0
      · subst ha; rw [bl_zero]; omega
      · rw [bl_pos a (by omega), bl_pos b (by omega)]
        have := ih (b / 2) (by omega) (a / 2) (by omega)
        omega

theorem bl_le (n : Nat) : bl n ≤ n := by
  induction n using Nat.strongRecOn with
  | _ n ih =>
    by_cases h : n = 0
    · subst h; rw [bl_zero]; omega
    · rw [bl_pos n (by omega)]
      have := ih (n / 2) (by omega)
      omega

end Go.Proofs.YtejhbaeeaejcaaaGreat
/- Keys of versions as numbers, and the walks of cmp.Compare at unsigned numbers, cmp.Or and key.Compare. Conditions: those of each theorem. -/
namespace Go.Proofs.YtejhbaeeaejcaaaGreat
open Go.RowKit

set_option maxRecDepth 100000 in
set_option maxHeartbeats 4000000 in
theorem isNaN_u16 (x : Int) (w : World) : Calls Tryz.prog 118 #[.int .u16 x] w fun e w' => e = .returned (.bool false) ∧ w' = w := by
  go_enter Tryz.func118, Tryz.ntmps118
  go_wp2_with fail
  go_ret
  exact ⟨by simp, rfl⟩

set_option maxRecDepth 100000 in
set_option maxHeartbeats 4000000 in
theorem compare_u16 (x y : Int) (w : World) : Calls Tryz.prog 101 #[.int .u16 x, .int .u16 y] w fun e w' => e = .returned (.int .i64 (Lib.compareInt x y)) ∧ w' = w := by
  unfold Lib.compareInt
  by_cases h1 : x < y
  · have d1 : decide (x < y) = true := decide_eq_true h1
    rw [if_pos h1]
    go_enter Tryz.func101, Tryz.ntmps101
    go_wp2_with fail
    refine (isNaN_u16 x w).mono ?_
    rintro e w2 ⟨rfl, rfl⟩
    go_wp2_with fail
    refine (isNaN_u16 y w2).mono ?_
    rintro e w3 ⟨rfl, rfl⟩
    go_wp2_with fail
    go_ret
    exact ⟨rfl, rfl⟩
  · have d1 : decide (x < y) = false := decide_eq_false h1
    rw [if_neg h1]
    by_cases h2 : x > y
    · have d2 : decide (x > y) = true := decide_eq_true h2
      rw [if_pos h2]
      go_enter Tryz.func101, Tryz.ntmps101
      go_wp2_with fail
      refine (isNaN_u16 x w).mono ?_
      rintro e w2 ⟨rfl, rfl⟩
      go_wp2_with fail
      refine (isNaN_u16 y w2).mono ?_
      rintro e w3 ⟨rfl, rfl⟩
      go_wp2_with fail
      go_ret
      exact ⟨rfl, rfl⟩
    · have d2 : decide (x > y) = false := decide_eq_false h2
      rw [if_neg h2]
      go_enter Tryz.func101, Tryz.ntmps101
      go_wp2_with fail
      refine (isNaN_u16 x w).mono ?_
      rintro e w2 ⟨rfl, rfl⟩
      go_wp2_with fail
      refine (isNaN_u16 y w2).mono ?_
      rintro e w3 ⟨rfl, rfl⟩
      go_wp2_with fail
      go_ret
      exact ⟨rfl, rfl⟩

set_option maxRecDepth 100000 in
set_option maxHeartbeats 4000000 in
theorem isNaN_u32 (x : Int) (w : World) : Calls Tryz.prog 119 #[.int .u32 x] w fun e w' => e = .returned (.bool false) ∧ w' = w := by
  go_enter Tryz.func119, Tryz.ntmps119
  go_wp2_with fail
  go_ret
  exact ⟨by simp, rfl⟩

set_option maxRecDepth 100000 in
set_option maxHeartbeats 4000000 in
theorem compare_u32 (x y : Int) (w : World) : Calls Tryz.prog 102 #[.int .u32 x, .int .u32 y] w fun e w' => e = .returned (.int .i64 (Lib.compareInt x y)) ∧ w' = w := by
  unfold Lib.compareInt
  by_cases h1 : x < y
  · have d1 : decide (x < y) = true := decide_eq_true h1
    rw [if_pos h1]
    go_enter Tryz.func102, Tryz.ntmps102
    go_wp2_with fail
    refine (isNaN_u32 x w).mono ?_
    rintro e w2 ⟨rfl, rfl⟩
    go_wp2_with fail
    refine (isNaN_u32 y w2).mono ?_
    rintro e w3 ⟨rfl, rfl⟩
    go_wp2_with fail
    go_ret
    exact ⟨rfl, rfl⟩
  · have d1 : decide (x < y) = false := decide_eq_false h1
    rw [if_neg h1]
    by_cases h2 : x > y
    · have d2 : decide (x > y) = true := decide_eq_true h2
      rw [if_pos h2]
      go_enter Tryz.func102, Tryz.ntmps102
      go_wp2_with fail
      refine (isNaN_u32 x w).mono ?_
      rintro e w2 ⟨rfl, rfl⟩
      go_wp2_with fail
      refine (isNaN_u32 y w2).mono ?_
      rintro e w3 ⟨rfl, rfl⟩
      go_wp2_with fail
      go_ret
      exact ⟨rfl, rfl⟩
    · have d2 : decide (x > y) = false := decide_eq_false h2
      rw [if_neg h2]
      go_enter Tryz.func102, Tryz.ntmps102
      go_wp2_with fail
      refine (isNaN_u32 x w).mono ?_
      rintro e w2 ⟨rfl, rfl⟩
      go_wp2_with fail
      refine (isNaN_u32 y w2).mono ?_
      rintro e w3 ⟨rfl, rfl⟩
      go_wp2_with fail
      go_ret
      exact ⟨rfl, rfl⟩

set_option maxRecDepth 100000 in
set_option maxHeartbeats 4000000 in
theorem isNaN_u64 (x : Int) (w : World) : Calls Tryz.prog 120 #[.int .u64 x] w fun e w' => e = .returned (.bool false) ∧ w' = w := by
  go_enter Tryz.func120, Tryz.ntmps120
  go_wp2_with fail
  go_ret
  exact ⟨by simp, rfl⟩

set_option maxRecDepth 100000 in
set_option maxHeartbeats 4000000 in
theorem compare_u64 (x y : Int) (w : World) : Calls Tryz.prog 103 #[.int .u64 x, .int .u64 y] w fun e w' => e = .returned (.int .i64 (Lib.compareInt x y)) ∧ w' = w := by
  unfold Lib.compareInt
  by_cases h1 : x < y
  · have d1 : decide (x < y) = true := decide_eq_true h1
    rw [if_pos h1]
    go_enter Tryz.func103, Tryz.ntmps103
    go_wp2_with fail
    refine (isNaN_u64 x w).mono ?_
    rintro e w2 ⟨rfl, rfl⟩
    go_wp2_with fail
    refine (isNaN_u64 y w2).mono ?_
    rintro e w3 ⟨rfl, rfl⟩
    go_wp2_with fail
    go_ret
    exact ⟨rfl, rfl⟩
  · have d1 : decide (x < y) = false := decide_eq_false h1
    rw [if_neg h1]
    by_cases h2 : x > y
    · have d2 : decide (x > y) = true := decide_eq_true h2
      rw [if_pos h2]
      go_enter Tryz.func103, Tryz.ntmps103
      go_wp2_with fail
      refine (isNaN_u64 x w).mono ?_
      rintro e w2 ⟨rfl, rfl⟩
      go_wp2_with fail
      refine (isNaN_u64 y w2).mono ?_
      rintro e w3 ⟨rfl, rfl⟩
      go_wp2_with fail
      go_ret
      exact ⟨rfl, rfl⟩
    · have d2 : decide (x > y) = false := decide_eq_false h2
      rw [if_neg h2]
      go_enter Tryz.func103, Tryz.ntmps103
      go_wp2_with fail
      refine (isNaN_u64 x w).mono ?_
      rintro e w2 ⟨rfl, rfl⟩
      go_wp2_with fail
      refine (isNaN_u64 y w2).mono ?_
      rintro e w3 ⟨rfl, rfl⟩
      go_wp2_with fail
      go_ret
      exact ⟨rfl, rfl⟩

/-- The first of three numbers that is not 0. -/
def or3 (a b c : Int) : Int := if a = 0 then (if b = 0 then c else b) else a

set_option maxRecDepth 100000 in
set_option maxHeartbeats 4000000 in
theorem or3_any (b : Nat) (x y z : Int) (w : World) (hx : w.cell? ⟨b, 0, none⟩ = some (.int .i64 x)) (hy : w.cell? ⟨b, 1, none⟩ = some (.int .i64 y)) (hz : w.cell? ⟨b, 2, none⟩ = some (.int .i64 z)) :
    Calls Tryz.prog 100 #[.slice (some ⟨b, 0, none⟩) 3 3] w fun e w' => e = .returned (.int .i64 (or3 x y z)) ∧ w' = w := by
  by_cases h1 : x = 0
  · subst h1
    by_cases h2 : y = 0
    · subst h2
      have hres : or3 0 0 z = z := by simp [or3]
      rw [hres]
      clear hres
      by_cases h3 : z = 0
      · subst h3
        go_enter Tryz.func100, Tryz.ntmps100
        go_wp2_with fail
        refine wp_loop_rounds 4 ?_
        rw [rounds_succ]
        go_wp2_with fail
        rw [rounds_succ]
        go_wp2_with fail
        rw [rounds_succ]
        go_wp2_with fail
        rw [rounds_succ]
        go_wp2_with fail
        go_ret
        exact ⟨rfl, rfl⟩
      · have d3 : (z != 0) = true := by simpa using h3
        go_enter Tryz.func100, Tryz.ntmps100
        go_wp2_with fail
        refine wp_loop_rounds 4 ?_
        rw [rounds_succ]
        go_wp2_with fail
        rw [rounds_succ]
        go_wp2_with fail
        rw [rounds_succ]
        go_wp2_with fail
        go_ret
        exact ⟨rfl, rfl⟩
    · have d2 : (y != 0) = true := by simpa using h2
      have hres : or3 0 y z = y := by simp [or3, h2]
      rw [hres]
      clear hres
      go_enter Tryz.func100, Tryz.ntmps100
      go_wp2_with fail
      refine wp_loop_rounds 4 ?_
      rw [rounds_succ]
      go_wp2_with fail
      rw [rounds_succ]
      go_wp2_with fail
      go_ret
      exact ⟨rfl, rfl⟩
  · have d1 : (x != 0) = true := by simpa using h1
    have hres : or3 x y z = x := by simp [or3, h1]
    rw [hres]
    clear hres
    go_enter Tryz.func100, Tryz.ntmps100
    go_wp2_with fail
    refine wp_loop_rounds 4 ?_
    rw [rounds_succ]
    go_wp2_with fail
    go_ret
    exact ⟨rfl, rfl⟩

theorem cells3_new (w : World) (x y z : Int) (t : TypeId) : (w.alloc (.cells #[.int .i64 x, .int .i64 y, .int .i64 z] t)).cell? ⟨w.heap.size, 0, none⟩ = some (.int .i64 x) ∧ (w.alloc (.cells #[.int .i64 x, .int .i64 y, .int .i64 z] t)).cell? ⟨w.heap.size, 1, none⟩ = some (.int .i64 y) ∧ (w.alloc (.cells #[.int .i64 x, .int .i64 y, .int .i64 z] t)).cell? ⟨w.heap.size, 2, none⟩ = some (.int .i64 z) := by
  refine ⟨?_, ?_, ?_⟩ <;> simp
theorem cell_past {w : World} {p : Addr} {v : Value} (h : w.cell? p = some v) (o : Obj) : (w.alloc o).cell? p = some v := by
  have hlt := World.block_lt_of_cell? _ _ h
  rw [((Below.refl w.heap.size w).alloc (Nat.le_refl _) o).cell hlt]
  exact h

def kVol (k : Nat) : Nat := k / 79228162514264337593543950336
def kBlk (k : Nat) : Nat := k / 18446744073709551616 % 4294967296
def kSeq (k : Nat) : Nat := k % 18446744073709551616
/-- A key as a value. -/
def keyV (k : Nat) : Value := .agg #[.int .u16 (kVol k : Int), .int .u32 (kBlk k : Int), .int .u64 (kSeq k : Int)]
/-- How keys compare. -/
def cmpN (a b : Nat) : Int := if a < b then -1 else if b < a then 1 else 0
theorem key_cmp (a b : Nat) : or3 (Lib.compareInt (kVol a) (kVol b)) (Lib.compareInt (kBlk a) (kBlk b)) (Lib.compareInt (kSeq a) (kSeq b)) = cmpN a b := by
  have ha : a = kVol a * 79228162514264337593543950336 + kBlk a * 18446744073709551616 + kSeq a := by unfold kVol kBlk kSeq; omega
  have hb : b = kVol b * 79228162514264337593543950336 + kBlk b * 18446744073709551616 + kSeq b := by unfold kVol kBlk kSeq; omega
  have a1 : kBlk a < 4294967296 := by unfold kBlk; omega
  have a2 : kSeq a < 18446744073709551616 := by unfold kSeq; omega
  have b1 : kBlk b < 4294967296 := by unfold kBlk; omega
  have b2 : kSeq b < 18446744073709551616 := by unfold kSeq; omega
  generalize kVol a = va at *
  generalize kBlk a = ka at *
  generalize kSeq a = sa at *
  generalize kVol b = vb at *
  generalize kBlk b = kb at *
  generalize kSeq b = sb at *
  subst ha
  subst hb
  unfold or3 Lib.compareInt cmpN
  by_cases e1 : va = vb
  · subst e1
    by_cases e2 : ka = kb
    · subst e2
      by_cases e3 : sa = sb
      · subst e3
        simp
      · by_cases e4 : sa < sb
        · rw [if_pos (by simp), if_pos (by simp), if_pos (by omega), if_pos (by omega)]
        · rw [if_pos (by simp), if_pos (by simp), if_neg (by omega), if_pos (by omega), if_neg (by omega), if_pos (by omega)]
    · by_cases e4 : ka < kb
      · rw [if_pos (by simp), if_pos (show (ka : Int) < (kb : Int) by omega), if_pos (show va * 79228162514264337593543950336 + ka * 18446744073709551616 + sa < va * 79228162514264337593543950336 + kb * 18446744073709551616 + sb by omega)]
        simp
      · have e5 : kb < ka := by omega
        have e6 : ¬ (ka : Int) < (kb : Int) := by omega
        have e7 : (ka : Int) > (kb : Int) := by omega
        rw [if_neg (show ¬ va * 79228162514264337593543950336 + ka * 18446744073709551616 + sa < va * 79228162514264337593543950336 + kb * 18446744073709551616 + sb by omega), if_pos (show va * 79228162514264337593543950336 + kb * 18446744073709551616 + sb < va * 79228162514264337593543950336 + ka * 18446744073709551616 + sa by omega)]
        simp [e6, e7]
  · by_cases e4 : va < vb
    · have e6 : (va : Int) < (vb : Int) := by omega
      rw [if_pos (show va * 79228162514264337593543950336 + ka * 18446744073709551616 + sa < vb * 79228162514264337593543950336 + kb * 18446744073709551616 + sb by omega)]
      simp [e6]
    · have e6 : ¬ (va : Int) < (vb : Int) := by omega
      have e7 : (va : Int) > (vb : Int) := by omega
      rw [if_neg (show ¬ va * 79228162514264337593543950336 + ka * 18446744073709551616 + sa < vb * 79228162514264337593543950336 + kb * 18446744073709551616 + sb by omega), if_pos (show vb * 79228162514264337593543950336 + kb * 18446744073709551616 + sb < va * 79228162514264337593543950336 + ka * 18446744073709551616 + sa by omega)]
      simp [e6, e7]

def Key2 (B : Nat) (W' : World) (a1 a2 a3 b1 b2 b3 : Int) : Prop := W'.cell? ⟨B, 0, none⟩ = some (.int .u16 a1) ∧ W'.cell? ⟨B, 1, none⟩ = some (.int .u32 a2) ∧ W'.cell? ⟨B, 2, none⟩ = some (.int .u64 a3) ∧ W'.cell? ⟨B + 1, 0, none⟩ = some (.int .u16 b1) ∧ W'.cell? ⟨B + 1, 1, none⟩ = some (.int .u32 b2) ∧ W'.cell? ⟨B + 1, 2, none⟩ = some (.int .u64 b3)
theorem Key2.alloc {B : Nat} {w : World} {a1 a2 an b1 b2 bn : Int} (h : Key2 B w a1 a2 an b1 b2 bn) (o : Obj) : Key2 B (w.alloc o) a1 a2 an b1 b2 bn :=
  ⟨cell_past h.1 o, cell_past h.2.1 o, cell_past h.2.2.1 o, cell_past h.2.2.2.1 o, cell_past h.2.2.2.2.1 o, cell_past h.2.2.2.2.2 o⟩

set_option maxRecDepth 100000 in
set_option maxHeartbeats 4000000 in
theorem keyCompare_any (a b : Nat) (W : World) :
    Calls Tryz.prog 79 #[keyV a, keyV b] W fun e w' => e = .returned (.int .i64 (cmpN a b)) ∧ Below W.heap.size W w' := by
  rw [← key_cmp]
  unfold keyV
  generalize (kVol a : Int) = a1
  generalize (kBlk a : Int) = a2
  generalize (kSeq a : Int) = an
  generalize (kVol b : Int) = b1
  generalize (kBlk b : Int) = b2
  generalize (kSeq b : Int) = bn
  generalize hc1 : Lib.compareInt a1 b1 = c1 at *
  generalize hc2 : Lib.compareInt a2 b2 = c2 at *
  generalize hc3 : Lib.compareInt an bn = c3 at *
  have ho := fun b' W' => or3_any b' c1 c2 c3 W'
  generalize or3 c1 c2 c3 = r at *
  go_enter Tryz.func79, Tryz.ntmps79
  go_wp2_with fail
  have hx : Below W.heap.size W ((W.alloc (.cells #[.int .u16 a1, .int .u32 a2, .int .u64 an] 27)).alloc (.cells #[.int .u16 b1, .int .u32 b2, .int .u64 bn] 27)) := ((Below.refl _ _).alloc (Nat.le_refl _) _).alloc (by simp) _
  have hS : Key2 W.heap.size ((W.alloc (.cells #[.int .u16 a1, .int .u32 a2, .int .u64 an] 27)).alloc (.cells #[.int .u16 b1, .int .u32 b2, .int .u64 bn] 27)) a1 a2 an b1 b2 bn := by
    refine ⟨?_, ?_, ?_, ?_, ?_, ?_⟩ <;> simp
  generalize ((W.alloc (.cells #[.int .u16 a1, .int .u32 a2, .int .u64 an] 27)).alloc (.cells #[.int .u16 b1, .int .u32 b2, .int .u64 bn] 27)) = WB at *
  generalize hB : W.heap.size = B at *
  have hS2 : ∀ o, Key2 B (WB.alloc o) a1 a2 an b1 b2 bn := fun o => hS.alloc o
  have hS3 : ∀ o, Key2 B (WB.alloc o).drew a1 a2 an b1 b2 bn := fun o => hS.alloc o
  unfold Key2 at hS hS2 hS3
  have ho2 := ho WB.heap.size (WB.alloc (.cells #[.int .i64 c1, .int .i64 c2, .int .i64 c3] 3)).drew (cells3_new WB _ _ _ _).1 (cells3_new WB _ _ _ _).2.1 (cells3_new WB _ _ _ _).2.2
  clear ho
  go_region_held (fun W' => W'.cell? ⟨B, 0, none⟩ = some (.int .u16 a1) ∧ W'.cell? ⟨B, 1, none⟩ = some (.int .u32 a2) ∧ W'.cell? ⟨B, 2, none⟩ = some (.int .u64 an) ∧ W'.cell? ⟨B + 1, 0, none⟩ = some (.int .u16 b1) ∧ W'.cell? ⟨B + 1, 1, none⟩ = some (.int .u32 b2) ∧ W'.cell? ⟨B + 1, 2, none⟩ = some (.int .u64 bn)) (first | exact hS | exact hS2 _ | exact hS3 _)
    (first
      | (go_at_call 101; refine (compare_u16 _ _ _).mono ?_; rintro e w5 ⟨rfl, rfl⟩)
      | (go_at_call 102; refine (compare_u32 _ _ _).mono ?_; rintro e w5 ⟨rfl, rfl⟩)
      | (go_at_call 103; refine (compare_u64 _ _ _).mono ?_; rintro e w5 ⟨rfl, rfl⟩)
      | (go_at_call 100; refine ho2.mono ?_; rintro e w5 ⟨rfl, rfl⟩))
  all_goals
    go_wp2_with fail
    go_ret
    refine ⟨rfl, ?_⟩
    rw [hB]
    have hh := hx.alloc (by have := hx.size; omega) (.cells #[.int .i64 c1, .int .i64 c2, .int .i64 c3] 3)
    exact ⟨hh.os, hh.tape, hh.output, hh.size, hh.block⟩
end Go.Proofs.YtejhbaeeaejcaaaGreat
/- Rows of keys that read, and the walk of slices.BinarySearchFunc at them by key.Compare. Conditions: those of each theorem. -/
namespace Go.Proofs.YtejhbaeeaejcaaaGreat
open Go.RowKit

theorem Below.drewB {B : Nat} {w0 w : World} (h : Below B w0 w) : Below B w0 w.drew := ⟨h.os, h.tape, h.output, h.size, h.block⟩
/-- A slice of keys that reads. -/
def KRow (w : World) (a : Option Addr) (n : Nat) (ks : List Nat) : Prop :=
  ks.length = n ∧ ∀ i k, ks[i]? = some k → ∃ b o, a = some ⟨b, o, none⟩ ∧ w.cell? ⟨b, o + i * 3, none⟩ = some (.int .u16 (kVol k : Int)) ∧ w.cell? ⟨b, o + i * 3 + 1, none⟩ = some (.int .u32 (kBlk k : Int)) ∧ w.cell? ⟨b, o + i * 3 + 2, none⟩ = some (.int .u64 (kSeq k : Int))
theorem KRow.below {w w' : World} {C : Nat} {a : Option Addr} {n : Nat} {ks : List Nat} (h : KRow w a n ks) (hb : Below C w w') (hC : w.heap.size ≤ C) : KRow w' a n ks := by
  refine ⟨h.1, fun i r hr => ?_⟩
  obtain ⟨b, o, ha, h1, h2, h3⟩ := h.2 i r hr
  have hlt := World.block_lt_of_cell? _ _ h1
  simp at hlt
  refine ⟨b, o, ha, ?_, ?_, ?_⟩
  · rw [hb.cell (p := ⟨b, o + i * 3, none⟩) (by show b < C; omega)]; exact h1
  · rw [hb.cell (p := ⟨b, o + i * 3 + 1, none⟩) (by show b < C; omega)]; exact h2
  · rw [hb.cell (p := ⟨b, o + i * 3 + 2, none⟩) (by show b < C; omega)]; exact h3
theorem KRow.list {w : World} {a : Option Addr} {n : Nat} {ks : List Nat} (h : KRow w a n ks) (i : Nat) (hi : i < n) : ∃ b o k, a = some ⟨b, o, none⟩ ∧ ks[i]? = some k ∧ w.cell? ⟨b, o + i * 3, none⟩ = some (.int .u16 (kVol k : Int)) ∧ w.cell? ⟨b, o + i * 3 + 1, none⟩ = some (.int .u32 (kBlk k : Int)) ∧ w.cell? ⟨b, o + i * 3 + 2, none⟩ = some (.int .u64 (kSeq k : Int)) := by
  have hl : i < ks.length := by rw [h.1]; exact hi
  obtain ⟨b, o, ha, h1, h2, h3⟩ := h.2 i ks[i] (List.getElem?_eq_getElem hl)
  exact ⟨b, o, ks[i], ha, List.getElem?_eq_getElem hl, h1, h2, h3⟩

/-- How many keys are ahead of one. -/
def lbN (ks : List Nat) (k : Nat) : Nat := (ks.filter fun x => decide (x < k)).length
theorem lbN_is {ks : List Nat} {k i : Nat} (hi : i ≤ ks.length) (h1 : ∀ j x, j < i → ks[j]? = some x → x < k) (h2 : ∀ j x, i ≤ j → ks[j]? = some x → k ≤ x) : lbN ks k = i := by
  unfold lbN
  have e : ks.filter (fun x => decide (x < k)) = ks.take i := by
    conv => lhs; rw [← List.take_append_drop i ks]
    rw [List.filter_append]
    have ha : (ks.take i).filter (fun x => decide (x < k)) = ks.take i := by
      rw [List.filter_eq_self]
      intro x hx
      obtain ⟨j, hj⟩ := List.getElem?_of_mem hx
      have hjl := (List.getElem?_eq_some_iff.1 hj).1
      rw [List.length_take] at hjl
      rw [List.getElem?_take_of_lt (by omega)] at hj
      simpa using h1 j x (by omega) hj
    have hb : (ks.drop i).filter (fun x => decide (x < k)) = [] := by
      rw [List.filter_eq_nil_iff]
      intro x hx
      obtain ⟨j, hj⟩ := List.getElem?_of_mem hx
      rw [List.getElem?_drop] at hj
      have := h2 _ x (by omega) hj
      simp; omega
    rw [ha, hb, List.append_nil]
  rw [e, List.length_take]
  omega
theorem cmpN_lt (a b : Nat) : (cmpN a b < 0) ↔ a < b := by
  unfold cmpN
  by_cases h : a < b
  · simp [h]
  · by_cases h2 : b < a <;> simp [h, h2]
theorem cmpN_eq (a b : Nat) : (cmpN a b = 0) ↔ a = b := by
  unfold cmpN
  by_cases h : a < b
  · simp [h]; omega
  · by_cases h2 : b < a
    · simp [h, h2]; omega
    · simp [h, h2]; omega

set_option maxRecDepth 100000 in
set_option maxHeartbeats 8000000 in
theorem bsearch_any (a : Option Addr) (n c : Nat) (ks : List Nat) (k : Nat) (w : World) (h : KRow w a n ks) (hn : n ≤ 1000000) (hs : ks.Pairwise (· < ·)) :
    Calls Tryz.prog 78 #[.slice a n c, keyV k, .func (.func 79) #[] #[]] w fun e w' => e = .returned (.tuple #[.int .i64 (lbN ks k : Nat), .bool (decide (k ∈ ks))]) ∧ Below w.heap.size w w' := by
  have hb0 : Below w.heap.size w (w.alloc (.cells #[.int .u16 (kVol k : Int), .int .u32 (kBlk k : Int), .int .u64 (kSeq k : Int)] 27)) := (Below.refl _ _).alloc (Nat.le_refl _) _
  have x0 : (w.alloc (.cells #[.int .u16 (kVol k : Int), .int .u32 (kBlk k : Int), .int .u64 (kSeq k : Int)] 27)).cell? ⟨w.heap.size, 0, none⟩ = some (.int .u16 (kVol k : Int)) := by simp
  have x1 : (w.alloc (.cells #[.int .u16 (kVol k : Int), .int .u32 (kBlk k : Int), .int .u64 (kSeq k : Int)] 27)).cell? ⟨w.heap.size, 1, none⟩ = some (.int .u32 (kBlk k : Int)) := by simp
  have x2 : (w.alloc (.cells #[.int .u16 (kVol k : Int), .int .u32 (kBlk k : Int), .int .u64 (kSeq k : Int)] 27)).cell? ⟨w.heap.size, 2, none⟩ = some (.int .u64 (kSeq k : Int)) := by simp
  have hsz : (w.alloc (.cells #[.int .u16 (kVol k : Int), .int .u32 (kBlk k : Int), .int .u64 (kSeq k : Int)] 27)).heap.size = w.heap.size + 1 := by simp
  have hh := h.below hb0 (Nat.le_refl _)
  have hlen := h.1
  have HH := Lib.hid hh
  have HS := Lib.hid hs
  clear h hh hs
  unfold keyV
  go_enter Tryz.func78, Tryz.ntmps78
  go_wp2_with fail
  generalize w.alloc (.cells #[.int .u16 (kVol k : Int), .int .u32 (kBlk k : Int), .int .u64 (kSeq k : Int)] 27) = w0 at *
  generalize hB : w.heap.size = B at *
  go_loopw [9, 10] (fun u9 u10 wr => ∃ i j : Nat, i ≤ j ∧ j ≤ n ∧ u9 = .int .i64 i ∧ u10 = .int .i64 j ∧ (∀ t x, t < i → ks[t]? = some x → x < k) ∧ (∀ t x, j ≤ t → ks[t]? = some x → k ≤ x) ∧ Below w0.heap.size w0 wr) (fun u9 u10 _ => (intOf u10).toNat - (intOf u9).toNat)
  case atStart => exact ⟨0, n, by omega, by omega, rfl, rfl, fun t x ht _ => by omega, fun t x ht hx => by have := (List.getElem?_eq_some_iff.1 hx).1; omega, Below.refl _ _⟩
  case round =>
    obtain ⟨i, j, hij, hjn, rfl, rfl, hlo, hhi, hbr⟩ := hrel
    have z0 : wr.cell? ⟨B, 0, none⟩ = some (.int .u16 (kVol k : Int)) := by rw [hbr.cell (p := ⟨B, 0, none⟩) (by show B < w0.heap.size; omega)]; exact x0
    have z1 : wr.cell? ⟨B, 1, none⟩ = some (.int .u32 (kBlk k : Int)) := by rw [hbr.cell (p := ⟨B, 1, none⟩) (by show B < w0.heap.size; omega)]; exact x1
    have z2 : wr.cell? ⟨B, 2, none⟩ = some (.int .u64 (kSeq k : Int)) := by rw [hbr.cell (p := ⟨B, 2, none⟩) (by show B < w0.heap.size; omega)]; exact x2
    have HLO := Lib.hid hlo
    have HHI := Lib.hid hhi
    clear hlo hhi
    by_cases hlt : i < j
    · have hlt1 : (i : Int) < (j : Int) := by omega
      have hw1 : IntKind.i64.wrap ((i : Int) + (j : Int)) = (i : Int) + (j : Int) := IntWalk.i64_in _ (by omega)
      obtain ⟨m, hm⟩ : ∃ m : Nat, ((i : Int) + (j : Int)) / 2 = (m : Int) := ⟨(i + j) / 2, by omega⟩
      have hm1 : i ≤ m := by omega
      have hm2 : m < j := by omega
      go_wp2_with fail
      clear hm hw1
      have hmn : (m : Int) < (n : Int) := by omega
      have hm0 : (0 : Int) ≤ (m : Int) := by omega
      obtain ⟨b, o, x, rfl, hx, d0, d1, d2⟩ := (HH.out.below hbr (Nat.le_refl _)).list m (by omega)
      have hS : wr.drew.cell? ⟨b, o + m * 3, none⟩ = some (.int .u16 (kVol x : Int)) ∧ wr.drew.cell? ⟨b, o + m * 3 + 1, none⟩ = some (.int .u32 (kBlk x : Int)) ∧ wr.drew.cell? ⟨b, o + m * 3 + 2, none⟩ = some (.int .u64 (kSeq x : Int)) ∧ wr.drew.cell? ⟨B, 0, none⟩ = some (.int .u16 (kVol k : Int)) ∧ wr.drew.cell? ⟨B, 1, none⟩ = some (.int .u32 (kBlk k : Int)) ∧ wr.drew.cell? ⟨B, 2, none⟩ = some (.int .u64 (kSeq k : Int)) := ⟨d0, d1, d2, z0, z1, z2⟩
      have hS5 : ∀ w5, Below wr.drew.heap.size wr.drew w5 → w5.cell? ⟨b, o + m * 3, none⟩ = some (.int .u16 (kVol x : Int)) ∧ w5.cell? ⟨b, o + m * 3 + 1, none⟩ = some (.int .u32 (kBlk x : Int)) ∧ w5.cell? ⟨b, o + m * 3 + 2, none⟩ = some (.int .u64 (kSeq x : Int)) ∧ w5.cell? ⟨B, 0, none⟩ = some (.int .u16 (kVol k : Int)) ∧ w5.cell? ⟨B, 1, none⟩ = some (.int .u32 (kBlk k : Int)) ∧ w5.cell? ⟨B, 2, none⟩ = some (.int .u64 (kSeq k : Int)) := fun w5 h5 =>
        ⟨(h5.cell (World.block_lt_of_cell? _ _ d0)).trans d0, (h5.cell (World.block_lt_of_cell? _ _ d1)).trans d1, (h5.cell (World.block_lt_of_cell? _ _ d2)).trans d2, (h5.cell (World.block_lt_of_cell? _ _ z0)).trans z0, (h5.cell (World.block_lt_of_cell? _ _ z1)).trans z1, (h5.cell (World.block_lt_of_cell? _ _ z2)).trans z2⟩
      have HS5 := Lib.hid hS5
      have hkc := fun W' => keyCompare_any x k W'
      have hc0 := cmpN_lt x k
      generalize cmpN x k = r at *
      have HKC := Lib.hid hkc
      have HX := Lib.hid hx
      have HBJ : Hid (∀ w5, Below wr.drew.heap.size wr.drew w5 → Below w0.heap.size w0 w5) := Lib.hid fun w5 h5 => Below.trans (show Below w0.heap.size w0 wr.drew from ⟨hbr.os, hbr.tape, hbr.output, hbr.size, hbr.block⟩) (Below.mono h5 hbr.size)
      clear hS5 hkc d0 d1 d2 z0 z1 z2 hx
      by_cases hxk : x < k
      · have hr : decide (r < 0) = true := decide_eq_true (hc0.2 hxk)
        have hnlo : ∀ t y, t < m + 1 → ks[t]? = some y → y < k := fun t y ht hy => by
          rcases Nat.lt_or_ge t m with h1 | h1
          · have hxm := List.pairwise_iff_getElem.1 HS.out t m (List.getElem?_eq_some_iff.1 hy).1 (List.getElem?_eq_some_iff.1 HX.out).1 h1
            rw [(List.getElem?_eq_some_iff.1 hy).2, (List.getElem?_eq_some_iff.1 HX.out).2] at hxm
            omega
          · have : t = m := by omega
            subst this
            rw [HX.out] at hy
            cases hy
            exact hxk
        have HN := Lib.hid hnlo
        clear hc0 hxk hnlo
        go_region_held (fun W' => W'.cell? ⟨b, o + m * 3, none⟩ = some (.int .u16 (kVol x : Int)) ∧ W'.cell? ⟨b, o + m * 3 + 1, none⟩ = some (.int .u32 (kBlk x : Int)) ∧ W'.cell? ⟨b, o + m * 3 + 2, none⟩ = some (.int .u64 (kSeq x : Int)) ∧ W'.cell? ⟨B, 0, none⟩ = some (.int .u16 (kVol k : Int)) ∧ W'.cell? ⟨B, 1, none⟩ = some (.int .u32 (kBlk k : Int)) ∧ W'.cell? ⟨B, 2, none⟩ = some (.int .u64 (kSeq k : Int))) (first | exact hS6 | exact hS)
          (first | (go_at_call 79; refine (HKC.out _).mono ?_; rintro e w5 ⟨rfl, hb5⟩; have hS6 := HS5.out w5 hb5))
        all_goals
          go_wp2_with fail
          go_roundw
          case rel => exact ⟨m + 1, j, by omega, by omega, by go_num, rfl, HN.out, HHI.out, HBJ.out _ hb5⟩
          case measure => simp [intOf]; omega
      · have hr : decide (r < 0) = false := decide_eq_false (fun h => hxk (hc0.1 h))
        have hnhi : ∀ t y, m ≤ t → ks[t]? = some y → k ≤ y := fun t y ht hy => by
          rcases Nat.lt_or_ge m t with h1 | h1
          · have hxm := List.pairwise_iff_getElem.1 HS.out m t (List.getElem?_eq_some_iff.1 HX.out).1 (List.getElem?_eq_some_iff.1 hy).1 h1
            rw [(List.getElem?_eq_some_iff.1 hy).2, (List.getElem?_eq_some_iff.1 HX.out).2] at hxm
            omega
          · have : t = m := by omega
            subst this
            rw [HX.out] at hy
            cases hy
            omega
        have HN := Lib.hid hnhi
        clear hc0 hxk hnhi
        go_region_held (fun W' => W'.cell? ⟨b, o + m * 3, none⟩ = some (.int .u16 (kVol x : Int)) ∧ W'.cell? ⟨b, o + m * 3 + 1, none⟩ = some (.int .u32 (kBlk x : Int)) ∧ W'.cell? ⟨b, o + m * 3 + 2, none⟩ = some (.int .u64 (kSeq x : Int)) ∧ W'.cell? ⟨B, 0, none⟩ = some (.int .u16 (kVol k : Int)) ∧ W'.cell? ⟨B, 1, none⟩ = some (.int .u32 (kBlk k : Int)) ∧ W'.cell? ⟨B, 2, none⟩ = some (.int .u64 (kSeq k : Int))) (first | exact hS6 | exact hS)
          (first | (go_at_call 79; refine (HKC.out _).mono ?_; rintro e w5 ⟨rfl, hb5⟩; have hS6 := HS5.out w5 hb5))
        all_goals
          go_wp2_with fail
          go_roundw
          case rel => exact ⟨i, m, by omega, by omega, rfl, by go_num, HLO.out, HN.out, HBJ.out _ hb5⟩
          case measure => simp [intOf]; omega
    · obtain rfl : i = j := by omega
      have hlb : lbN ks k = i := lbN_is (by omega) HLO.out HHI.out
      have HLB := Lib.hid hlb
      clear hlb
      by_cases hin : i < n
      · have hin1 : (i : Int) < (n : Int) := by omega
        have hi0 : (0 : Int) ≤ (i : Int) := by omega
        obtain ⟨b, o, x, rfl, hx, d0, d1, d2⟩ := (HH.out.below hbr (Nat.le_refl _)).list i hin
        have hS : wr.drew.cell? ⟨b, o + i * 3, none⟩ = some (.int .u16 (kVol x : Int)) ∧ wr.drew.cell? ⟨b, o + i * 3 + 1, none⟩ = some (.int .u32 (kBlk x : Int)) ∧ wr.drew.cell? ⟨b, o + i * 3 + 2, none⟩ = some (.int .u64 (kSeq x : Int)) ∧ wr.drew.cell? ⟨B, 0, none⟩ = some (.int .u16 (kVol k : Int)) ∧ wr.drew.cell? ⟨B, 1, none⟩ = some (.int .u32 (kBlk k : Int)) ∧ wr.drew.cell? ⟨B, 2, none⟩ = some (.int .u64 (kSeq k : Int)) := ⟨d0, d1, d2, z0, z1, z2⟩
        have hS5 : ∀ w5, Below wr.drew.heap.size wr.drew w5 → w5.cell? ⟨b, o + i * 3, none⟩ = some (.int .u16 (kVol x : Int)) ∧ w5.cell? ⟨b, o + i * 3 + 1, none⟩ = some (.int .u32 (kBlk x : Int)) ∧ w5.cell? ⟨b, o + i * 3 + 2, none⟩ = some (.int .u64 (kSeq x : Int)) ∧ w5.cell? ⟨B, 0, none⟩ = some (.int .u16 (kVol k : Int)) ∧ w5.cell? ⟨B, 1, none⟩ = some (.int .u32 (kBlk k : Int)) ∧ w5.cell? ⟨B, 2, none⟩ = some (.int .u64 (kSeq k : Int)) := fun w5 h5 =>
          ⟨(h5.cell (World.block_lt_of_cell? _ _ d0)).trans d0, (h5.cell (World.block_lt_of_cell? _ _ d1)).trans d1, (h5.cell (World.block_lt_of_cell? _ _ d2)).trans d2, (h5.cell (World.block_lt_of_cell? _ _ z0)).trans z0, (h5.cell (World.block_lt_of_cell? _ _ z1)).trans z1, (h5.cell (World.block_lt_of_cell? _ _ z2)).trans z2⟩
        have HS5 := Lib.hid hS5
        have hkc := fun W' => keyCompare_any x k W'
        have hmem : (cmpN x k == 0) = decide (k ∈ ks) := by
          rw [show (cmpN x k == 0) = decide (cmpN x k = 0) from rfl, decide_eq_decide, cmpN_eq]
          constructor
          · rintro rfl
            exact List.mem_of_getElem? hx
          · intro hk
            obtain ⟨t, ht⟩ := List.getElem?_of_mem hk
            rcases Nat.lt_trichotomy t i with h1 | h1 | h1
            · have := HLO.out t k h1 ht
              omega
            · subst h1
              rw [hx] at ht
              exact Option.some.inj ht
            · have hxm := List.pairwise_iff_getElem.1 HS.out i t (List.getElem?_eq_some_iff.1 hx).1 (List.getElem?_eq_some_iff.1 ht).1 h1
              rw [(List.getElem?_eq_some_iff.1 ht).2, (List.getElem?_eq_some_iff.1 hx).2] at hxm
              have := HHI.out i x (Nat.le_refl _) hx
              omega
        generalize cmpN x k = r at *
        generalize hbd : decide (k ∈ ks) = bd at *
        have HBD := Lib.hid hbd
        have HKC := Lib.hid hkc
        have HBJ : Hid (∀ w5, Below wr.drew.heap.size wr.drew w5 → Below w0.heap.size w0 w5) := Lib.hid fun w5 h5 => Below.trans (show Below w0.heap.size w0 wr.drew from ⟨hbr.os, hbr.tape, hbr.output, hbr.size, hbr.block⟩) (Below.mono h5 hbr.size)
        clear hS5 hkc d0 d1 d2 z0 z1 z2 hx hbd
        go_wp2_with fail
        go_region_held (fun W' => W'.cell? ⟨b, o + i * 3, none⟩ = some (.int .u16 (kVol x : Int)) ∧ W'.cell? ⟨b, o + i * 3 + 1, none⟩ = some (.int .u32 (kBlk x : Int)) ∧ W'.cell? ⟨b, o + i * 3 + 2, none⟩ = some (.int .u64 (kSeq x : Int)) ∧ W'.cell? ⟨B, 0, none⟩ = some (.int .u16 (kVol k : Int)) ∧ W'.cell? ⟨B, 1, none⟩ = some (.int .u32 (kBlk k : Int)) ∧ W'.cell? ⟨B, 2, none⟩ = some (.int .u64 (kSeq k : Int))) (first | exact hS6 | exact hS)
          (first | (go_at_call 79; refine (HKC.out _).mono ?_; rintro e w5 ⟨rfl, hb5⟩; have hS6 := HS5.out w5 hb5))
        all_goals
          go_wp2_with fail
          go_ret2
          exact ⟨by rw [HLB.out, HBD.out]; rfl, by rw [hB]; exact hb0.trans ((HBJ.out _ hb5).mono (by omega))⟩
      · have hni : ¬ k ∈ ks := fun hk => by
          obtain ⟨t, ht⟩ := List.getElem?_of_mem hk
          have := HLO.out t k (by have := (List.getElem?_eq_some_iff.1 ht).1; omega) ht
          omega
        have HNI := Lib.hid hni
        have hin2 : decide ((i : Int) < (n : Int)) = false := decide_eq_false (by omega)
        clear hni
        go_wp2_with fail
        go_quiet (fail)
        go_wp2_with fail
        go_ret2
        exact ⟨by rw [HLB.out, decide_eq_false HNI.out]; rfl, by rw [hB]; exact hb0.trans (Below.mono (show Below w0.heap.size w0 _ from ⟨hbr.os, hbr.tape, hbr.output, hbr.size, hbr.block⟩) (by omega))⟩
end Go.Proofs.YtejhbaeeaejcaaaGreat
