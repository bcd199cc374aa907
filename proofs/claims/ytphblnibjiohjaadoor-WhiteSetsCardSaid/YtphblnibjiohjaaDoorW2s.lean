/- The law WhiteSets, as a plain statement, and its walk. -/
import Derived.Test.YtphblnibjiohjaaDoorW1b
import Derived.Test.YtphblnibjiohjaaDoorW3
import Derived.Test.YtphblnibjiohjaaDoorPAx21
import Derived.Test.YtphblnibjiohjaaDoorPAx20
import Derived.Test.YtphblnibjiohjaaDoorPAx14
import Derived.Test.YtphblnibjiohjaaDoorPAx15
namespace Go.Proofs.YtphblnibjiohjaaDoor.PA
open Go.RowKit Go.Proofs.YtphblnibjiohjaaDoorW.PrintWords Go.Proofs.YtphblnibjiohjaaDoorW.PrintLast Go.Proofs.YtphblnibjiohjaaDoorW.PrintMore

theorem rsub_l0 (a b : Bool) (l m : List Int) (hl : l.length ≤ 140737488355328) (hm : m.length ≤ 140737488355328) : ∀ (d k i : Nat), i + d = l.length → d + m.length + 1 < k →
    purlieuref02_Subset.l0 k ((i : Nat) : Int) a l b m = some ((l.drop i).all fun c => hasB b m c) := by
  intro d
  induction d with
  | zero =>
    intro k i hi hk
    obtain ⟨k, rfl⟩ : ∃ j, k = j + 1 := ⟨k - 1, by omega⟩
    simp only [purlieuref02_Subset.l0]
    rw [if_neg (by omega), List.drop_of_length_le (by omega)]
    rfl
  | succ d ih =>
    intro k i hi hk
    obtain ⟨k, rfl⟩ : ∃ j, k = j + 1 := ⟨k - 1, by omega⟩
    have h : i < l.length := by omega
    have step := ih k (i + 1) (by omega) (by omega)
    simp only [purlieuref02_Subset.l0]
    rw [if_pos (by omega), if_pos (by omega), rhas_eq b m _ hm k (by omega), rd_nat, gd h, List.drop_eq_getElem_cons h, wrap_step (by omega), step]
    simp only [Option.bind_some, List.all_cons]
    by_cases hh : hasB b m l[i] = true
    · rw [if_pos hh, hh, Bool.true_and]
    · rw [if_neg hh, Bool.eq_false_iff.2 hh, Bool.false_and]
theorem canB_true {l : List Int} (h : canB true l = true) : l = [] := by
  unfold canB at h
  simpa using h
theorem canB_nonneg {a : Bool} {l : List Int} (h : canB a l = true) : ∀ c ∈ l, 0 ≤ c := by
  cases a with
  | true => rw [canB_true h]; intro c hc; cases hc
  | false => exact ((canL_iff' l).1 (by simpa [canB] using h)).2.1
theorem rsub_eq (a b : Bool) (l m : List Int) (hl : l.length ≤ 140737488355328) (hm : m.length ≤ 140737488355328) (k : Nat) (hk : l.length + m.length + 5 < k) : purlieuref02_Subset.f k a l b m = some (subB a l b m) := by
  obtain ⟨k, rfl⟩ : ∃ j, k = j + 1 := ⟨k - 1, by omega⟩
  have h0 := rsub_l0 a b l m hl hm l.length k 0 (by omega) (by omega)
  rw [show ((0 : Nat) : Int) = 0 from rfl, List.drop_zero] at h0
  unfold purlieuref02_Subset.f subB
  rw [rcan_eq a l hl _ (by omega), rcan_eq b m hm _ (by omega)]
  simp only [Option.bind_some, purlieuref02_Subset.j0, h0]
  by_cases ha : canB a l = true
  · by_cases hb : canB b m = true
    · rw [ha, hb]
      cases a with
      | true =>
        rw [canB_true ha]
        cases b <;> simp
      | false =>
        cases b with
        | false => simp
        | true =>
          simp only [if_true, Bool.false_eq_true, if_false, Bool.true_and, Bool.false_or]
          congr 1
          rw [List.all_eq_true]
          intro c hc
          unfold hasB
          rw [decide_eq_true (canB_nonneg ha c hc), hb]
          simp
    · rw [ha, Bool.eq_false_iff.2 hb]; simp
  · rw [Bool.eq_false_iff.2 ha]; simp
theorem rand_l0 (a b : Bool) (l m : List Int) (hl : l.length < 17592186044416) (hm : m.length ≤ 140737488355328) : ∀ (d k i : Nat) (acc : List Int), i + d = l.length → d + m.length + 1 < k → acc.length ≤ i →
    purlieuref02_And.l0 k ((i : Nat) : Int) a l b m false acc = some (false, acc ++ (l.drop i).filter fun c => hasB b m c) := by
  intro d
  induction d with
  | zero =>
    intro k i acc hi hk hacc
    obtain ⟨k, rfl⟩ : ∃ j, k = j + 1 := ⟨k - 1, by omega⟩
    simp only [purlieuref02_And.l0]
    rw [if_neg (by omega), List.drop_of_length_le (by omega)]
    simp
  | succ d ih =>
    intro k i acc hi hk hacc
    obtain ⟨k, rfl⟩ : ∃ j, k = j + 1 := ⟨k - 1, by omega⟩
    have h : i < l.length := by omega
    simp only [purlieuref02_And.l0]
    rw [if_pos (by omega), if_pos (by omega), rhas_eq b m _ hm k (by omega), rd_nat, gd h, List.drop_eq_getElem_cons h, wrap_step (by omega)]
    simp only [Option.bind_some]
    by_cases hh : hasB b m l[i] = true
    · rw [if_pos hh, if_pos (by omega), ih k (i + 1) (acc ++ [l[i]]) (by omega) (by omega) (by simp; omega), List.filter_cons_of_pos hh]
      simp
    · rw [if_neg hh, ih k (i + 1) acc (by omega) (by omega) (by omega), List.filter_cons_of_neg hh]
theorem rand_eq (a b : Bool) (l m : List Int) (hl : l.length < 17592186044416) (hm : m.length < 17592186044416) (k : Nat) (hk : l.length + m.length + 5 < k) : purlieuref02_And.f k a l b m = some (andB a l b m) := by
  obtain ⟨k, rfl⟩ : ∃ j, k = j + 1 := ⟨k - 1, by omega⟩
  have h0 := rand_l0 a b l m hl (by omega) l.length k 0 [] (by omega) (by omega) (by simp)
  rw [show ((0 : Nat) : Int) = 0 from rfl, List.drop_zero, List.nil_append] at h0
  unfold purlieuref02_And.f andB
  rw [rcan_eq a l (by omega) _ (by omega), rcan_eq b m (by omega) _ (by omega)]
  simp only [Option.bind_some, purlieuref02_And.j0, h0]
  by_cases ha : canB a l = true
  · by_cases hb : canB b m = true
    · rw [ha, hb, own_eq b m hm]
      cases a with
      | true =>
        have hf : m.filter (hasB true l) = m := by
          rw [List.filter_eq_self]
          intro c hc
          unfold hasB
          rw [decide_eq_true (canB_nonneg hb c hc), ha]
          simp
        simp [hf]
      | false => simp
    · rw [ha, Bool.eq_false_iff.2 hb]; simp
  · rw [Bool.eq_false_iff.2 ha]; simp
theorem sub_eq (a b : Bool) (l m : List Int) (hl : l.length < 70368744177664) (hm : m.length < 70368744177664) : white_Subset.f a l b m = some (subB a l b m) := by
  unfold white_Subset.f white_subset.f
  rw [if_pos ⟨hl, hm⟩]; rfl
theorem WhiteSets (a b : Bool) (l m : List Int) : ∃ k, purlieulaw02_WhiteSets.f k a l b m = some true := by
  refine ⟨600, ?_⟩
  have hl := len2 l
  have hm := len2 m
  have hr : (andB a (l.take 200) b (m.take 200)).2.length ≤ 200 := by
    unfold andB
    split
    · split
      · exact Nat.le_trans (List.length_filter_le _ _) hm
      · exact Nat.le_trans (List.length_filter_le _ _) hl
    · simp
  unfold purlieulaw02_WhiteSets.f
  simp only [short_eq, Option.bind_some, take2]
  rw [sub_eq a b _ _ (by omega) (by omega), rsub_eq a b _ _ (by omega) (by omega) 600 (by omega), show white_And.f a (l.take 200) b (m.take 200) = some (andB a (l.take 200) b (m.take 200)) by unfold white_And.f; rw [if_pos (by omega)],
    rand_eq a b _ _ (by omega) (by omega) 600 (by omega)]
  simp only [Option.bind_some]
  rw [if_pos (by simp), same_eq _ _ _ _ (by omega) 600 (by omega), lives_eq 600 (by omega)]
  simp
theorem whiteSets_walk (W : World) {a0 : Option Addr} {len0 cap0 : Nat} {zs0 : List Int} (o0 : Bool) (h0 : RowIs W a0 len0 cap0 zs0) {a1 : Option Addr} {len1 cap1 : Nat} {zs1 : List Int} (o1 : Bool) (h1 : RowIs W a1 len1 cap1 zs1) :
    Calls Tryd.prog 8 #[.agg #[.bool o0, .slice a0 len0 cap0], .agg #[.bool o1, .slice a1 len1 cap1]] W fun e w' => e = .returned (.bool true) ∧ Below W.heap.size W w' := by
  obtain ⟨l, rfl, hr, hl, _⟩ := row_C h0
  obtain ⟨m, rfl, hr1, hl1, _⟩ := row_C h1
  obtain ⟨k, hk⟩ := WhiteSets o0 o1 l m
  exact purlieulaw02_WhiteSets.calls k o0 a0 cap0 l o1 a1 cap1 m true W hr hl hr1 hl1 hk
end Go.Proofs.YtphblnibjiohjaaDoor.PA
