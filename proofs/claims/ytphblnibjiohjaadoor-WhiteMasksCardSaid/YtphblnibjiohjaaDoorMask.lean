/- What white.Mask and purlieuref02.Mask answer: the same. -/
import Derived.Test.YtphblnibjiohjaaDoorBits
import Derived.Test.YtphblnibjiohjaaDoorW1
import Derived.Test.YtphblnibjiohjaaDoorPAx11
import Derived.Test.YtphblnibjiohjaaDoorPAx13
import Derived.Test.YtphblnibjiohjaaDoorPAx12
namespace Go.Proofs.YtphblnibjiohjaaDoor.PA
open Go.RowKit Go.Proofs.YtphblnibjiohjaaDoorW.PrintWords Go.Proofs.YtphblnibjiohjaaDoorW.PrintLast Go.Proofs.YtphblnibjiohjaaDoorW.PrintMore Go.Proofs.YtphblnibjiohjaaDoor.BitsLaw

theorem bit_eq (a : Int) (i : Nat) (hi : i < 64) : purlieuref02_bit.f a ((i : Nat) : Int) = some (bt64 a i) := by
  unfold purlieuref02_bit.f
  have h : IntKind.u64.wrap ((i : Nat) : Int) = (i : Int) := by simp [IntKind.wrap, IntKind.bits, IntKind.signed]; omega
  rw [if_pos (by rw [h]; omega), shr_bit a i hi]
def bad1 (o m : Int) (i : Nat) : Bool := (decide (i < 3) || decide (6 < i)) && (bt64 o i || bt64 m i)
def bad2 (o m : Int) (i : Nat) : Bool := bt64 m i && !bt64 o i
def anyFrom (p : Nat → Bool) : Nat → Nat → Bool
  | 0, _ => false
  | d + 1, i => p i || anyFrom p d (i + 1)
theorem anyFrom_iff (p : Nat → Bool) : ∀ d i, anyFrom p d i = true ↔ ∃ j, i ≤ j ∧ j < i + d ∧ p j = true := by
  intro d
  induction d with
  | zero =>
    intro i
    simp only [anyFrom, Bool.false_eq_true, false_iff]
    rintro ⟨j, h1, h2, _⟩
    omega
  | succ d ih =>
    intro i
    simp only [anyFrom, Bool.or_eq_true, ih]
    constructor
    · rintro (h | ⟨j, h1, h2, h3⟩)
      · exact ⟨i, Nat.le_refl _, by omega, h⟩
      · exact ⟨j, by omega, by omega, h3⟩
    · rintro ⟨j, h1, h2, h3⟩
      rcases Nat.eq_or_lt_of_le h1 with rfl | h
      · exact .inl h3
      · exact .inr ⟨j, h, by omega, h3⟩
def maskV (o m : Int) : Int × Int := if anyFrom (bad1 o m) 64 0 = true then (0, 22) else if anyFrom (bad2 o m) 64 0 = true then (0, 93) else (m, 0)
theorem mask_l1 (o m : Int) : ∀ (d k i : Nat), i + d = 64 → d < k → purlieuref02_Mask.l1 k o m ((i : Nat) : Int) = some (if anyFrom (bad2 o m) d i = true then (0, 93) else (m, 0)) := by
  intro d
  induction d with
  | zero =>
    intro k i hi hk
    obtain ⟨k, rfl⟩ : ∃ j, k = j + 1 := ⟨k - 1, by omega⟩
    simp only [purlieuref02_Mask.l1]
    rw [if_neg (by omega), if_neg (by simp [anyFrom])]
  | succ d ih =>
    intro k i hi hk
    obtain ⟨k, rfl⟩ : ∃ j, k = j + 1 := ⟨k - 1, by omega⟩
    have step := ih k (i + 1) (by omega) (by omega)
    simp only [purlieuref02_Mask.l1]
    rw [if_pos (by omega), bit_eq m i (by omega), bit_eq o i (by omega), wrap_step (by omega), step]
    simp only [Option.bind_some, anyFrom, bad2]
    by_cases hbm : bt64 m i = true <;> by_cases hbo : bt64 o i = true <;> simp [hbm, hbo]
theorem mask_l0 (o m : Int) (t : Int × Int) (ht : ∀ k, 64 < k → purlieuref02_Mask.l1 k o m 0 = some t) : ∀ (d k i : Nat), i + d = 64 → d + 66 < k → purlieuref02_Mask.l0 k o m ((i : Nat) : Int) = some (if anyFrom (bad1 o m) d i = true then (0, 22) else t) := by
  intro d
  induction d with
  | zero =>
    intro k i hi hk
    obtain ⟨k, rfl⟩ : ∃ j, k = j + 1 := ⟨k - 1, by omega⟩
    simp only [purlieuref02_Mask.l0]
    rw [if_neg (by omega), ht k (by omega), show anyFrom (bad1 o m) 0 i = false from rfl]
    rfl
  | succ d ih =>
    intro k i hi hk
    obtain ⟨k, rfl⟩ : ∃ j, k = j + 1 := ⟨k - 1, by omega⟩
    have step := ih k (i + 1) (by omega) (by omega)
    have ha : anyFrom (bad1 o m) (d + 1) i = (bad1 o m i || anyFrom (bad1 o m) d (i + 1)) := rfl
    simp only [purlieuref02_Mask.l0]
    rw [if_pos (by omega), bit_eq m i (by omega), bit_eq o i (by omega), wrap_step (by omega), step, ha]
    simp only [Option.bind_some, bad1]
    by_cases h3 : i < 3
    · have h3' : (i : Int) < 3 := by omega
      by_cases hbm : bt64 m i = true <;> by_cases hbo : bt64 o i = true <;> simp [hbm, hbo, h3, h3']
    · have h3' : ¬ (i : Int) < 3 := by omega
      by_cases h6 : 6 < i
      · have h6' : (i : Int) > 6 := by omega
        by_cases hbm : bt64 m i = true <;> by_cases hbo : bt64 o i = true <;> simp [hbm, hbo, h3, h3', h6, h6']
      · have h6' : ¬ (i : Int) > 6 := by omega
        rw [if_neg h3', if_neg h6']
        simp [h3, h6]
theorem rmask_eq (o m : Int) (k : Nat) (hk : 130 < k) : purlieuref02_Mask.f k o m = some (maskV o m) := by
  unfold purlieuref02_Mask.f maskV
  exact mask_l0 o m _ (fun k hk => mask_l1 o m 64 k 0 (by omega) hk) 64 k 0 (by omega) (by omega)
theorem bit120 : ∀ i, i < 64 → (bt64 120 i = true ↔ ¬ (i < 3 ∨ 6 < i)) := by
  intro i hi
  have h : ∀ i : Fin 64, (bt64 120 i.val = true ↔ ¬ (i.val < 3 ∨ 6 < i.val)) := by decide +kernel
  exact h ⟨i, hi⟩
theorem mask_eq (o m : Int) : white_Mask.f o m = some (maskV o m) := by
  unfold white_Mask.f maskV
  have h1 : bits .andNot .i64 (bits .or .i64 o m) 120 = 0 ↔ ¬ anyFrom (bad1 o m) 64 0 = true := by
    rw [andNot_zero, anyFrom_iff]
    constructor
    · rintro h ⟨j, _, hj, hb⟩
      simp only [bad1, Bool.and_eq_true, Bool.or_eq_true, decide_eq_true_iff] at hb
      have := h j (by omega) (by rw [or_bit]; simpa using hb.2)
      exact (bit120 j (by omega)).1 this hb.1
    · intro h i hi hb
      rw [bit120 i hi]
      intro hc
      apply h
      refine ⟨i, Nat.zero_le _, by omega, ?_⟩
      simp only [bad1, Bool.and_eq_true, Bool.or_eq_true, decide_eq_true_iff]
      exact ⟨hc, by rw [or_bit] at hb; simpa using hb⟩
  have h2 : bits .andNot .i64 m o = 0 ↔ ¬ anyFrom (bad2 o m) 64 0 = true := by
    rw [andNot_zero, anyFrom_iff]
    constructor
    · rintro h ⟨j, _, hj, hb⟩
      simp only [bad2, Bool.and_eq_true, Bool.not_eq_true'] at hb
      rw [h j (by omega) hb.1] at hb
      exact absurd hb.2 (by simp)
    · intro h i hi hb
      cases hc : bt64 o i with
      | true => rfl
      | false =>
        exfalso
        apply h
        exact ⟨i, Nat.zero_le _, by omega, by simp [bad2, hb, hc]⟩
  by_cases c1 : anyFrom (bad1 o m) 64 0 = true
  · rw [if_neg (fun h => (h1.1 h) c1), if_pos c1]
  · rw [if_pos (h1.2 c1), if_neg c1]
    by_cases c2 : anyFrom (bad2 o m) 64 0 = true
    · rw [if_neg (fun h => (h2.1 h) c2), if_pos c2]
    · rw [if_pos (h2.2 c2), if_neg c2]
theorem mask_within (o m : Int) (h : (maskV o m).2 = 0) : bits .andNot .i64 (maskV o m).1 o = 0 := by
  unfold maskV at h ⊢
  split at h <;> rename_i c1
  · simp at h
  · split at h <;> rename_i c2
    · simp at h
    · rw [if_neg c1, if_neg c2, andNot_zero]
      intro i hi hb
      cases hc : bt64 o i with
      | true => rfl
      | false =>
        exfalso
        apply c2
        rw [anyFrom_iff]
        exact ⟨i, Nat.zero_le _, by omega, by simp only [bad2]; rw [hc]; simpa using hb⟩
end Go.Proofs.YtphblnibjiohjaaDoor.PA
