/- What white.can answers, as a plain function of the list. -/
import Derived.Test.YtphblnibjiohjaaDoorPAx2
namespace Go.Proofs.YtphblnibjiohjaaDoor.PA
open Go.RowKit Go.Proofs.YtphblnibjiohjaaDoorW.PrintWords Go.Proofs.YtphblnibjiohjaaDoorW.PrintLast Go.Proofs.YtphblnibjiohjaaDoorW.PrintMore

def okAt (l : List Int) (j : Nat) : Bool := decide (0 ≤ l.getD j 0) && (j == 0 || decide (l.getD (j - 1) 0 < l.getD j 0))
def okFrom (l : List Int) : Nat → Nat → Bool
  | 0, _ => true
  | d + 1, i => okAt l i && okFrom l d (i + 1)
def canL (l : List Int) : Bool := okFrom l l.length 0 && decide (l.length ≤ 32)

theorem wrap_step {i : Nat} (h : i < 140737488355329) : wrap64 ((i : Int) + 1) = ((i + 1 : Nat) : Int) := by
  unfold wrap64
  omega
theorem wrap_back {i : Nat} (h : i < 140737488355329) (h0 : 0 < i) : wrap64 ((i : Int) - 1) = ((i - 1 : Nat) : Int) := by
  unfold wrap64
  omega
theorem rd_nat (l : List Int) (i : Nat) : rd l (i : Int) = l.getD i 0 := rfl

theorem can_l0 (l : List Int) (hn : l.length ≤ 140737488355328) : ∀ (d k i : Nat), i + d = l.length → d < k →
    white_can.l0 k l (l.length : Int) (i : Int) false l = some (okFrom l d i && decide (l.length ≤ 32)) := by
  intro d
  induction d with
  | zero =>
    intro k i hi hk
    obtain ⟨k, rfl⟩ : ∃ m, k = m + 1 := ⟨k - 1, by omega⟩
    simp only [white_can.l0]
    rw [if_neg (by omega)]
    simp [okFrom]
    omega
  | succ d ih =>
    intro k i hi hk
    obtain ⟨k, rfl⟩ : ∃ m, k = m + 1 := ⟨k - 1, by omega⟩
    have step := ih k (i + 1) (by omega) (by omega)
    simp only [white_can.l0]
    rw [if_pos (by omega), if_pos (by omega), if_pos (by omega), rd_nat]
    by_cases h0 : l.getD i 0 < 0
    · rw [if_pos h0]
      have : okAt l i = false := by unfold okAt; simp only [Bool.and_eq_false_iff]; exact .inl (by simpa using h0)
      simp [okFrom, this]
    · rw [if_neg h0]
      rcases Nat.eq_zero_or_pos i with rfl | hp
      · rw [if_neg (by omega), wrap_step (by omega), step]
        have : okAt l 0 = true := by unfold okAt; simp only [Bool.and_eq_true]; exact ⟨by simpa using h0, rfl⟩
        simp [okFrom, this]
      · rw [if_pos (by omega), wrap_back (by omega) hp, if_pos (by omega), if_pos (by omega), rd_nat]
        by_cases h1 : l.getD i 0 ≤ l.getD (i - 1) 0
        · rw [if_pos h1]
          have : okAt l i = false := by
            unfold okAt
            simp only [Bool.and_eq_false_iff]
            refine .inr ?_
            simp only [Bool.or_eq_false_iff]
            exact ⟨by simpa using Nat.ne_of_gt hp, decide_eq_false (by omega)⟩
          simp [okFrom, this]
        · rw [if_neg h1, wrap_step (by omega), step]
          have : okAt l i = true := by
            unfold okAt
            simp only [Bool.and_eq_true, Bool.or_eq_true]
            exact ⟨decide_eq_true (by omega), .inr (decide_eq_true (by omega))⟩
          simp [okFrom, this]

theorem can_eq (l : List Int) (hn : l.length ≤ 140737488355328) (k : Nat) (hk : l.length < k) : white_can.f k false l = some (canL l) := by
  unfold white_can.f canL
  rw [if_neg (by simp)]
  exact can_l0 l hn l.length k 0 (by omega) hk
end Go.Proofs.YtphblnibjiohjaaDoor.PA
