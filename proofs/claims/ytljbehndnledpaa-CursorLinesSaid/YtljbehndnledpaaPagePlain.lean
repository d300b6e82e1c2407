/- Plain: which 128 bytes are a page. No condition. -/
import Derived.Test.YtljbehndnledpaaClone
namespace Go.Proofs.Ytljbehndnledpaa

/-- The first 124 bytes of the page of a kind and bytes. -/
def headP (k : UInt8) (body : List UInt8) : List UInt8 := 157 :: 76 :: k :: UInt8.ofNat body.length :: (body ++ List.replicate (120 - body.length) 0)
/-- The page of a kind and bytes. -/
def pageP (k : UInt8) (body : List UInt8) : List UInt8 := headP k body ++ leN 4 (crcL (headP k body))

/-- Are 128 bytes a page? -/
def isPage (l : List UInt8) : Bool :=
  match l with
  | _ :: _ :: k :: n :: r => decide (1 ≤ k.toNat) && decide (k.toNat ≤ 6) && decide (n.toNat ≤ 120) && (l == pageP k (r.take n.toNat))
  | _ => false

/-- The number of bytes, the lowest first. -/
def leVal : List UInt8 → Nat
  | [] => 0
  | c :: l => c.toNat + 256 * leVal l

theorem leN_val (k x : Nat) (h : x < 256 ^ k) : leVal (leN k x) = x := by
  induction k generalizing x with
  | zero => simp at h; subst h; rfl
  | succ k ih =>
    have h1 : leN (k + 1) x = UInt8.ofNat x :: leN k (x / 256) := by
      unfold leN
      rw [List.range_succ_eq_map, List.map_cons, List.map_map]
      congr 1
      · simp
      · apply List.map_congr_left
        intro i _
        simp only [Function.comp_apply]
        rw [Nat.pow_succ, Nat.mul_comm, ← Nat.div_div_eq_div_mul]
    rw [h1, leVal, ih (x / 256) (by rw [Nat.pow_succ] at h; omega), UInt8.toNat_ofNat']
    omega
theorem leVal_inj : ∀ (a b : List UInt8), a.length = b.length → leVal a = leVal b → a = b
  | [], [], _, _ => rfl
  | [], _ :: _, h, _ => by simp at h
  | _ :: _, [], h, _ => by simp at h
  | c :: a, d :: b, h, e => by
    have hc := c.toNat_lt
    have hd := d.toNat_lt
    simp only [leVal] at e
    have h1 : c.toNat = d.toNat := by omega
    have h2 : leVal a = leVal b := by omega
    rw [UInt8.toNat_inj.1 h1, leVal_inj a b (by simpa using h) h2]

/-- What the program asks of 128 bytes. -/
def asksPage (l : List UInt8) : Bool :=
  match l with
  | a :: b :: k :: n :: r => decide (a = 157) && decide (b = 76) && (decide (1 ≤ k.toNat) && decide (k.toNat ≤ 6)) && decide (n.toNat ≤ 120) && ((r.drop n.toNat).take (120 - n.toNat)).all (· == 0) && decide (leVal (l.drop 124) = crcL (l.take 124))
  | _ => false

theorem all_zero {l : List UInt8} (h : l.all (· == 0) = true) : l = List.replicate l.length 0 := by
  apply List.eq_replicate_iff.2
  refine ⟨rfl, fun b hb => ?_⟩
  have := List.all_eq_true.1 h b hb
  simpa using this

theorem headP_length (k : UInt8) (body : List UInt8) (h : body.length ≤ 120) : (headP k body).length = 124 := by
  simp [headP]; omega

theorem asksPage_eq (l : List UInt8) (hl : l.length = 128) : asksPage l = isPage l := by
  match l, hl with
  | a :: b :: k :: n :: r, hl =>
    have hr : r.length = 124 := by simpa using hl
    rw [Bool.eq_iff_iff]
    simp only [asksPage, isPage, Bool.and_eq_true, decide_eq_true_eq, beq_iff_eq]
    constructor
    · rintro ⟨⟨⟨⟨⟨rfl, rfl⟩, h1, h2⟩, h3⟩, h4⟩, h5⟩
      refine ⟨⟨⟨h1, h2⟩, h3⟩, ?_⟩
      have ht : (r.take n.toNat).length = n.toNat := by rw [List.length_take]; omega
      have hz := all_zero h4
      rw [List.length_take, List.length_drop, show min (120 - n.toNat) (r.length - n.toNat) = 120 - n.toNat by omega] at hz
      have hhead : headP k (r.take n.toNat) = (157 :: 76 :: k :: n :: r).take 124 := by
        unfold headP
        rw [ht, ← hz, show (124 : Nat) = 120 + 1 + 1 + 1 + 1 from rfl]
        simp only [List.take_succ_cons]
        rw [show UInt8.ofNat n.toNat = n from UInt8.ofNat_toNat]
        congr 4
        conv => rhs; rw [show (120 : Nat) = n.toNat + (120 - n.toNat) by omega, List.take_add]
      unfold pageP
      rw [hhead]
      have htail : (157 :: 76 :: k :: n :: r : List UInt8).drop 124 = leN 4 (crcL ((157 :: 76 :: k :: n :: r : List UInt8).take 124)) := by
        apply leVal_inj
        · rw [leN_length]; simp [hr]
        · rw [h5, leN_val]
          have := crcL_lt ((157 :: 76 :: k :: n :: r : List UInt8).take 124)
          omega
      rw [← htail, List.take_append_drop]
    · rintro ⟨⟨⟨h1, h2⟩, h3⟩, he⟩
      have ht : (r.take n.toNat).length = n.toNat := by rw [List.length_take]; omega
      have hhl := headP_length k (r.take n.toNat) (by omega)
      have hhead : (a :: b :: k :: n :: r).take 124 = headP k (r.take n.toNat) := by
        rw [he]; unfold pageP; rw [List.take_left' hhl]
      have htail : (a :: b :: k :: n :: r).drop 124 = leN 4 (crcL (headP k (r.take n.toNat))) := by
        conv => lhs; rw [he]
        unfold pageP; rw [List.drop_left' hhl]
      have hh2 := hhead
      unfold headP at hh2
      rw [ht, show (124 : Nat) = 120 + 1 + 1 + 1 + 1 from rfl] at hh2
      simp only [List.take_succ_cons, List.cons.injEq] at hh2
      obtain ⟨rfl, rfl, _, _, hb⟩ := hh2
      refine ⟨⟨⟨⟨⟨rfl, rfl⟩, h1, h2⟩, h3⟩, ?_⟩, ?_⟩
      · have : (r.drop n.toNat).take (120 - n.toNat) = List.replicate (120 - n.toNat) 0 := by
          have h6 : r.take 120 = r.take n.toNat ++ (r.drop n.toNat).take (120 - n.toNat) := by
            conv => lhs; rw [show (120 : Nat) = n.toNat + (120 - n.toNat) by omega, List.take_add]
          rw [h6] at hb
          exact List.append_cancel_left hb
        rw [this]
        simp
      · rw [htail, leN_val _ _ (by have := crcL_lt (headP k (r.take n.toNat)); omega), ← hhead]
end Go.Proofs.Ytljbehndnledpaa
