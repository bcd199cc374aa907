/- The law WhiteLimits, as a plain statement, and its walk. -/
import Derived.Test.YtphblnibjiohjaaDoorW2f
import Derived.Test.YtphblnibjiohjaaDoorLms
import Derived.Test.YtphblnibjiohjaaDoorW1b
import Derived.Test.YtphblnibjiohjaaDoorW3
import Derived.Test.YtphblnibjiohjaaDoorSub
import Derived.Test.YtphblnibjiohjaaDoorPAx14
namespace Go.Proofs.YtphblnibjiohjaaDoor.PA
open Go.RowKit Go.Proofs.YtphblnibjiohjaaDoorW.PrintWords Go.Proofs.YtphblnibjiohjaaDoorW.PrintLast Go.Proofs.YtphblnibjiohjaaDoorW.PrintMore
set_option linter.unusedVariables false
theorem rsub_l0 (a b : Bool) (l m : List Int) (hl : l.length ≤ 140737488355328) (hm : m.length ≤ 140737488355328) : ∀ (d k i : Nat), i + d = l.length → d + m.length + 1 < k →
    purlieuref02_Subset.l0 k ((i : Nat) : Int) a l b m = some ((l.drop i).all fun c => hasB b m c) := by
  intro d
  induction d with
  | zero =>
    intro k i hi hk
    obtain ⟨k, rfl⟩ : ∃ j, k = j + 1 := ⟨k - 1, by omega⟩
    simp only [purlieuref02_Subset.l0]
    rw [if_neg (by omega), List.drop_of_length_le (by omega)]
    rfl
  | succ d ih =>
    intro k i hi hk
    obtain ⟨k, rfl⟩ : ∃ j, k = j + 1 := ⟨k - 1, by omega⟩
    have h : i < l.length := by omega
    have step := ih k (i + 1) (by omega) (by omega)
    simp only [purlieuref02_Subset.l0]
    rw [if_pos (by omega), if_pos (by omega), rhas_eq b m _ hm k (by omega), rd_nat, gd h, List.drop_eq_getElem_cons h, wrap_step (by omega), step]
    simp only [Option.bind_some, List.all_cons]
    by_cases hh : hasB b m l[i] = true
    · rw [if_pos hh, hh, Bool.true_and]
    · rw [if_neg hh, Bool.eq_false_iff.2 hh, Bool.false_and]
theorem canB_true {l : List Int} (h : canB true l = true) : l = [] := by
  unfold canB at h
  simpa using h
theorem canB_nonneg {a : Bool} {l : List Int} (h : canB a l = true) : ∀ c ∈ l, 0 ≤ c := by
  cases a with
  | true => rw [canB_true h]; intro c hc; cases hc
  | false => exact ((canL_iff' l).1 (by simpa [canB] using h)).2.1
theorem rsub_eq (a b : Bool) (l m : List Int) (hl : l.length ≤ 140737488355328) (hm : m.length ≤ 140737488355328) (k : Nat) (hk : l.length + m.length + 5 < k) : purlieuref02_Subset.f k a l b m = some (subB a l b m) := by
  obtain ⟨k, rfl⟩ : ∃ j, k = j + 1 := ⟨k - 1, by omega⟩
  have h0 := rsub_l0 a b l m hl hm l.length k 0 (by omega) (by omega)
  rw [show ((0 : Nat) : Int) = 0 from rfl, List.drop_zero] at h0
  unfold purlieuref02_Subset.f subB
  rw [rcan_eq a l hl _ (by omega), rcan_eq b m hm _ (by omega)]
  simp only [Option.bind_some, purlieuref02_Subset.j0, h0]
  by_cases ha : canB a l = true
  · by_cases hb : canB b m = true
    · rw [ha, hb]
      cases a with
      | true =>
        rw [canB_true ha]
        cases b <;> simp
      | false =>
        cases b with
        | false => simp
        | true =>
          simp only [if_true, Bool.false_eq_true, if_false, Bool.true_and, Bool.false_or]
          congr 1
          rw [List.all_eq_true]
          intro c hc
          unfold hasB
          rw [decide_eq_true (canB_nonneg ha c hc), hb]
          simp
    · rw [ha, Bool.eq_false_iff.2 hb]; simp
  · rw [Bool.eq_false_iff.2 ha]; simp
def limR (a : Bool) (m l : List Int) : Bool × List Int × Int :=
  if canL (madeL l) = true then (if canB a m = true then (if subB false (madeL l) a m = true then (false, madeL l, 0) else (false, [], 93)) else (false, [], 22)) else (false, [], 22)
theorem wlim_eq (a : Bool) (m l : List Int) (hm : m.length ≤ 200) (hl : l.length ≤ 200) : white_Limit.f 600 a m l = some (limR a m l) := by
  have hk := mk_len l hl
  unfold white_Limit.f limR
  rw [wmade_eq l hl, can_all a m (by omega) 600 (by omega)]
  unfold mkR at hk ⊢
  by_cases hc : canL (madeL l) = true
  · rw [if_pos hc] at hk ⊢
    simp only [Option.bind_some]
    rw [if_pos trivial, if_pos hc]
    by_cases ha : canB a m = true
    · rw [if_pos ha, if_pos ha]
      unfold white_subset.f
      rw [if_pos ⟨by simp only at hk; omega, by omega⟩]
      simp only [Option.bind_some]
      split <;> rfl
    · rw [if_neg ha, if_neg ha]
  · rw [if_neg hc, if_neg hc]
    simp
theorem rlim_eq (a : Bool) (m l : List Int) (hm : m.length ≤ 200) (hl : l.length ≤ 200) : purlieuref02_Limit.f 600 a m l = some (limR a m l) := by
  have hk := mk_len l hl
  unfold purlieuref02_Limit.f limR
  rw [rmake_f l hl, rcan_eq a m (by omega) 600 (by omega)]
  unfold mkR at hk ⊢
  by_cases hc : canL (madeL l) = true
  · rw [if_pos hc] at hk ⊢
    simp only [Option.bind_some, purlieuref02_Limit.j0]
    rw [if_pos trivial, if_pos hc]
    by_cases ha : canB a m = true
    · rw [if_pos ha, ha, if_neg (by decide), rsub_eq false a _ _ (by simp only at hk; omega) (by omega) 599 (by simp only at hk; omega)]
      simp only [Option.bind_some]
      split <;> rfl
    · rw [if_neg ha, Bool.eq_false_iff.2 ha, if_pos (by decide)]
  · rw [if_neg hc, if_neg hc]
    simp [purlieuref02_Limit.j0]
theorem lim_len (a : Bool) (m l : List Int) (hl : l.length ≤ 200) : (limR a m l).2.1.length ≤ 200 := by
  have hk := mk_len l hl
  unfold mkR at hk
  unfold limR
  by_cases hc : canL (madeL l) = true
  · rw [if_pos hc] at hk ⊢
    split
    · split
      · exact hk
      · simp
    · simp
  · rw [if_neg hc]; simp
theorem WhiteLimits (a : Bool) (m l : List Int) : ∃ k, purlieulaw02_WhiteLimits.f k a m l = some true := by
  refine ⟨600, ?_⟩
  have hl := len2 l
  have hm := len2 m
  have hr := lim_len a (m.take 200) (l.take 200) hl
  unfold purlieulaw02_WhiteLimits.f
  simp only [few_eq, short_eq, Option.bind_some, take2]
  rw [wlim_eq a _ _ hm hl, rlim_eq a _ _ hm hl]
  simp only [Option.bind_some]
  rw [same_eq _ _ _ _ (by omega) 600 (by omega), rsub_eq _ _ _ _ (by omega) (by omega) 600 (by omega), lives_eq 600 (by omega)]
  simp only [Option.bind_some]
  rw [if_pos (by simp), if_pos trivial]
  by_cases h0 : (limR a (m.take 200) (l.take 200)).2.2 = 0
  · rw [if_pos h0, if_pos]
    unfold limR at h0 ⊢
    by_cases hc : canL (madeL (l.take 200)) = true
    · rw [if_pos hc] at h0 ⊢
      by_cases ha : canB a (m.take 200) = true
      · rw [if_pos ha] at h0 ⊢
        by_cases hs : subB false (madeL (l.take 200)) a (m.take 200) = true
        · rw [if_pos hs]; exact hs
        · rw [if_neg hs] at h0; exact absurd h0 (by decide)
      · rw [if_neg ha] at h0; exact absurd h0 (by decide)
    · rw [if_neg hc] at h0; exact absurd h0 (by decide)
  · rw [if_neg h0]
theorem whiteLimits_walk (W : World) {a0 : Option Addr} {len0 cap0 : Nat} {zs0 : List Int} (o0 : Bool) (h0 : RowIs W a0 len0 cap0 zs0) {a1 : Option Addr} {len1 cap1 : Nat} {zs1 : List Int} (h1 : RowIs W a1 len1 cap1 zs1) :
    Calls Tryd.prog 7 #[.agg #[.bool o0, .slice a0 len0 cap0], .slice a1 len1 cap1] W fun e w' => e = .returned (.bool true) ∧ Below W.heap.size W w' := by
  obtain ⟨m, rfl, hr, hl, _⟩ := row_C h0
  obtain ⟨l, rfl, hr1, hl1, _⟩ := row_C h1
  obtain ⟨k, hk⟩ := WhiteLimits o0 m l
  exact purlieulaw02_WhiteLimits.calls k o0 a0 cap0 m a1 cap1 l true W hr hl hr1 hl1 rfl hk
end Go.Proofs.YtphblnibjiohjaaDoor.PA
