/- What the printed functions of the two white packages answer, as plain functions of lists. -/
import Derived.Test.YtphblnibjiohjaaDoorCan
import Derived.Test.YtphblnibjiohjaaDoorPAx5
import Derived.Test.YtphblnibjiohjaaDoorPAx4
import Derived.Test.YtphblnibjiohjaaDoorPAx6
import Derived.Test.YtphblnibjiohjaaDoorPAx7
import Derived.Test.YtphblnibjiohjaaDoorPAx8
namespace Go.Proofs.YtphblnibjiohjaaDoor.PA
open Go.RowKit Go.Proofs.YtphblnibjiohjaaDoorW.PrintWords Go.Proofs.YtphblnibjiohjaaDoorW.PrintLast Go.Proofs.YtphblnibjiohjaaDoorW.PrintMore

def canB (all : Bool) (l : List Int) : Bool := if all then l.length == 0 else canL l
theorem can_all (all : Bool) (l : List Int) (hn : l.length ≤ 140737488355328) (k : Nat) (hk : l.length < k) : white_can.f k all l = some (canB all l) := by
  cases all with
  | false => exact can_eq l hn k hk
  | true =>
    unfold white_can.f canB
    rw [if_pos rfl, if_pos rfl]
    congr 1
    rw [Bool.eq_iff_iff]
    simp

/-! what canL says -/
theorem okFrom_iff (l : List Int) : ∀ d i, i + d = l.length → (okFrom l d i = true ↔ ∀ j, i ≤ j → j < l.length → okAt l j = true) := by
  intro d
  induction d with
  | zero => intro i h; simp only [okFrom, true_iff]; intro j h1 h2; omega
  | succ d ih =>
    intro i h
    have := ih (i + 1) (by omega)
    simp only [okFrom, Bool.and_eq_true, this]
    constructor
    · rintro ⟨h1, h2⟩ j hj hl
      rcases Nat.eq_or_lt_of_le hj with rfl | hlt
      · exact h1
      · exact h2 j hlt hl
    · intro h1
      exact ⟨h1 i (Nat.le_refl _) (by omega), fun j hj hl => h1 j (by omega) hl⟩
theorem okAt_iff (l : List Int) (j : Nat) : okAt l j = true ↔ 0 ≤ l.getD j 0 ∧ (j = 0 ∨ l.getD (j - 1) 0 < l.getD j 0) := by
  unfold okAt
  rw [Bool.and_eq_true, Bool.or_eq_true, decide_eq_true_iff, decide_eq_true_iff, beq_iff_eq]
theorem canL_iff (l : List Int) : canL l = true ↔ (∀ j, j < l.length → 0 ≤ l.getD j 0 ∧ (j = 0 ∨ l.getD (j - 1) 0 < l.getD j 0)) ∧ l.length ≤ 32 := by
  unfold canL
  rw [Bool.and_eq_true, decide_eq_true_iff, okFrom_iff l l.length 0 (by omega)]
  constructor
  · rintro ⟨h, h2⟩
    exact ⟨fun j hj => (okAt_iff l j).1 (h j (Nat.zero_le _) hj), h2⟩
  · rintro ⟨h, h2⟩
    exact ⟨fun j _ hj => (okAt_iff l j).2 (h j hj), h2⟩
theorem rises_of (l : List Int) (h : ∀ j, j < l.length → (j = 0 ∨ l.getD (j - 1) 0 < l.getD j 0)) : ∀ j i, i < j → j < l.length → l.getD i 0 < l.getD j 0 := by
  intro j
  induction j with
  | zero => intro i hi; omega
  | succ j ih =>
    intro i hi hj
    have h1 := (h (j + 1) hj).resolve_left (by omega)
    rw [Nat.add_sub_cancel] at h1
    rcases Nat.eq_or_lt_of_le (Nat.le_of_lt_succ hi) with rfl | hlt
    · exact h1
    · have := ih i hlt (by omega)
      omega
theorem getD_mem {l : List Int} {j : Nat} (h : j < l.length) : l.getD j 0 ∈ l := by
  rw [List.getD_eq_getElem?_getD, List.getElem?_eq_getElem h]
  exact List.getElem_mem h
theorem mem_getD {l : List Int} {x : Int} (h : x ∈ l) : ∃ j, j < l.length ∧ l.getD j 0 = x := by
  obtain ⟨j, hj, rfl⟩ := List.getElem_of_mem h
  exact ⟨j, hj, by rw [List.getD_eq_getElem?_getD, List.getElem?_eq_getElem hj]; rfl⟩
theorem gd {l : List Int} {j : Nat} (h : j < l.length) : l.getD j 0 = l[j] := by
  rw [List.getD_eq_getElem?_getD, List.getElem?_eq_getElem h]; rfl
theorem pw_iff (l : List Int) : l.Pairwise (· < ·) ↔ ∀ j i, i < j → j < l.length → l.getD i 0 < l.getD j 0 := by
  rw [List.pairwise_iff_getElem]
  constructor
  · intro h j i hi hj
    have := h i j (by omega) hj hi
    rw [gd hj, gd (Nat.lt_trans hi hj)]
    exact this
  · intro h i j hi hj hij
    have := h j i hij hj
    rw [gd hj, gd hi] at this
    exact this
theorem canL_iff' (l : List Int) : canL l = true ↔ l.Pairwise (· < ·) ∧ (∀ x ∈ l, 0 ≤ x) ∧ l.length ≤ 32 := by
  rw [canL_iff, pw_iff]
  constructor
  · rintro ⟨h, h2⟩
    exact ⟨rises_of l (fun j hj => (h j hj).2), fun x hx => by obtain ⟨j, hj, rfl⟩ := mem_getD hx; exact (h j hj).1, h2⟩
  · rintro ⟨h, h1, h2⟩
    refine ⟨fun j hj => ⟨h1 _ (getD_mem hj), ?_⟩, h2⟩
    rcases Nat.eq_zero_or_pos j with h0 | h0
    · exact .inl h0
    · exact .inr (h j (j - 1) (by omega) hj)

/-! the binary search -/
theorem mid_eq {i j : Nat} (hi : i < 70368744177664) (hj : j < 70368744177664) : wrap64 ((IntKind.u64.wrap (wrap64 ((i : Int) + (j : Int)))) / 2) = (((i + j) / 2 : Nat) : Int) := by
  have h1 : wrap64 ((i : Int) + (j : Int)) = ((i + j : Nat) : Int) := by unfold wrap64; omega
  rw [h1]
  have h2 : IntKind.u64.wrap ((i + j : Nat) : Int) = ((i + j : Nat) : Int) := by simp [IntKind.wrap, IntKind.bits, IntKind.signed]; omega
  rw [h2]
  unfold wrap64
  omega
theorem less_eq (a b : Int) : cmp_Less_int.f a b = some (decide (a < b)) := by
  unfold cmp_Less_int.f cmp_isNaN_int.f
  simp
theorem nan_eq (a : Int) : slices_isNaN_int.f a = some false := by
  unfold slices_isNaN_int.f
  simp
theorem bs_l0 (l : List Int) (x : Int) (hn : l.length < 70368744177664) (hs : ∀ j i, i < j → j < l.length → l.getD i 0 < l.getD j 0) :
    ∀ (d k i j : Nat), j - i ≤ d → d < k → i ≤ j → j ≤ l.length → (∀ m, m < i → l.getD m 0 < x) → (∀ m, j ≤ m → m < l.length → x ≤ l.getD m 0) →
    ∃ p : Int, slices_BinarySearch_int_int.l0 k l x (l.length : Int) (i : Int) (j : Int) = some (p, l.contains x) := by
  intro d
  induction d with
  | zero =>
    intro k i j hd hk hij hj hlo hhi
    obtain ⟨k, rfl⟩ : ∃ m, k = m + 1 := ⟨k - 1, by omega⟩
    obtain rfl : i = j := by omega
    simp only [slices_BinarySearch_int_int.l0]
    rw [if_neg (by omega)]
    by_cases hl : i < l.length
    · rw [if_pos (by omega), if_pos (by omega), if_pos (by omega), rd_nat]
      by_cases he : l.getD i 0 = x
      · rw [if_pos he]
        refine ⟨(i : Int), ?_⟩
        rw [show l.contains x = true from List.contains_iff_mem.2 (he ▸ getD_mem hl)]
      · rw [if_neg he, nan_eq]
        simp only [Option.bind_some]
        refine ⟨(i : Int), ?_⟩
        rw [if_neg (by simp), show l.contains x = false from ?_]
        rw [Bool.eq_false_iff]
        intro hc
        obtain ⟨m, hm, hx⟩ := mem_getD (List.contains_iff_mem.1 hc)
        rcases Nat.lt_trichotomy m i with h | h | h
        · have := hlo m h; omega
        · subst h; exact he hx
        · have := hs m i h hm
          have := hhi i (Nat.le_refl _) hl
          omega
    · rw [if_neg (by omega)]
      refine ⟨(i : Int), ?_⟩
      rw [show l.contains x = false from ?_]
      rw [Bool.eq_false_iff]
      intro hc
      obtain ⟨m, hm, hx⟩ := mem_getD (List.contains_iff_mem.1 hc)
      have := hlo m (by omega)
      omega
  | succ d ih =>
    intro k i j hd hk hij hj hlo hhi
    by_cases hz : i = j
    · subst hz
      exact ih k i i (by omega) (by omega) hij hj hlo hhi
    obtain ⟨k, rfl⟩ : ∃ m, k = m + 1 := ⟨k - 1, by omega⟩
    have hm1 : i ≤ (i + j) / 2 := by omega
    have hm2 : (i + j) / 2 < j := by omega
    simp only [slices_BinarySearch_int_int.l0]
    rw [if_pos (by omega), mid_eq (by omega) (by omega), if_pos (by omega), if_pos (by omega), rd_nat, less_eq]
    simp only [Option.bind_some]
    by_cases hc : l.getD ((i + j) / 2) 0 < x
    · rw [if_pos (by simpa using hc), show wrap64 ((((i + j) / 2 : Nat) : Int) + 1) = (((i + j) / 2 + 1 : Nat) : Int) from wrap_step (by omega)]
      refine ih k _ j (by omega) (by omega) (by omega) hj (fun m hm => ?_) hhi
      rcases Nat.lt_or_ge m ((i + j) / 2) with h | h
      · have := hs _ m h (by omega); omega
      · obtain rfl : m = (i + j) / 2 := by omega
        exact hc
    · rw [if_neg (by simpa using hc)]
      refine ih k i _ (by omega) (by omega) (by omega) (by omega) hlo (fun m hm hl => ?_)
      rcases Nat.eq_or_lt_of_le hm with h | h
      · subst h; omega
      · have := hs m _ h hl; omega
theorem bs_eq (l : List Int) (x : Int) (hn : l.length < 70368744177664) (hs : l.Pairwise (· < ·)) (k : Nat) (hk : l.length < k) : ∃ p : Int, slices_BinarySearch_int_int.f k l x = some (p, l.contains x) := by
  unfold slices_BinarySearch_int_int.f
  exact bs_l0 l x hn ((pw_iff l).1 hs) l.length k 0 l.length (by omega) hk (by omega) (Nat.le_refl _) (fun m hm => by omega) (fun m hm hl => by omega)

def hasB (all : Bool) (l : List Int) (c : Int) : Bool := decide (0 ≤ c) && canB all l && (l.contains c || all)
theorem canB_pw {all : Bool} {l : List Int} (h : canB all l = true) : l.Pairwise (· < ·) := by
  unfold canB at h
  cases all with
  | false => exact ((canL_iff' l).1 (by simpa using h)).1
  | true =>
    have : l = [] := by simpa using h
    subst this
    exact List.Pairwise.nil
theorem has_eq (all : Bool) (l : List Int) (c : Int) (hn : l.length < 70368744177664) (k : Nat) (hk : l.length < k) : white_has.f k all l c = some (hasB all l c) := by
  unfold white_has.f hasB
  by_cases h0 : c < 0
  · rw [if_pos h0, decide_eq_false (by omega)]
    rfl
  rw [if_neg h0, can_all all l (by omega) k hk, decide_eq_true (by omega)]
  simp only [Option.bind_some]
  by_cases hc : canB all l = true
  · rw [if_pos hc, hc]
    obtain ⟨p, hp⟩ := bs_eq l c hn (canB_pw hc) k hk
    rw [hp]
    simp only [Option.bind_some]
    by_cases hl : l.contains c = true
    · rw [if_pos hl, hl]; rfl
    · rw [if_neg hl, Bool.eq_false_iff.2 hl]; rfl
  · rw [if_neg hc, Bool.eq_false_iff.2 hc]; rfl
theorem Has_eq (all : Bool) (l : List Int) (c : Int) (hn : l.length < 70368744177664) (k : Nat) (hk : l.length < k) : white_Has.f k all l c = some (hasB all l c) := by
  unfold white_Has.f
  rw [has_eq all l c hn k hk]; rfl

/-! the references -/
theorem rcan_l0 (l : List Int) (hn : l.length ≤ 140737488355328) : ∀ (d k i : Nat), i + d = l.length → d < k → purlieuref02_Can.l0 k (i : Int) false l = some (okFrom l d i && (decide (d = 0) || decide (l.length ≤ 32))) := by
  intro d
  induction d with
  | zero =>
    intro k i hi hk
    obtain ⟨k, rfl⟩ : ∃ m, k = m + 1 := ⟨k - 1, by omega⟩
    simp only [purlieuref02_Can.l0]
    rw [if_neg (by omega)]
    rfl
  | succ d ih =>
    intro k i hi hk
    obtain ⟨k, rfl⟩ : ∃ m, k = m + 1 := ⟨k - 1, by omega⟩
    have step := ih k (i + 1) (by omega) (by omega)
    have tail : okAt l i = true → (if (i : Int) ≥ 32 then some false else purlieuref02_Can.l0 k (wrap64 ((i : Int) + 1)) false l) = some (okFrom l (d + 1) i && (decide (d + 1 = 0) || decide (l.length ≤ 32))) := by
      intro hok
      simp only [okFrom, hok, Bool.true_and]
      by_cases h32 : (i : Int) ≥ 32
      · rw [if_pos h32, decide_eq_false (show ¬ l.length ≤ 32 by omega), decide_eq_false (show ¬ d + 1 = 0 by omega)]
        simp
      · rw [if_neg h32, wrap_step (by omega), step, decide_eq_false (show ¬ d + 1 = 0 by omega)]
        by_cases hd : d = 0
        · rw [decide_eq_true hd, decide_eq_true (show l.length ≤ 32 by omega)]; rfl
        · rw [decide_eq_false hd]
    simp only [purlieuref02_Can.l0]
    rw [if_pos (by omega), if_neg (by simp), if_pos (by omega), rd_nat]
    by_cases h0 : l.getD i 0 < 0
    · rw [if_pos h0]
      have : okAt l i = false := by unfold okAt; simp only [Bool.and_eq_false_iff]; exact .inl (by simpa using h0)
      simp [okFrom, this]
    · rw [if_neg h0]
      rcases Nat.eq_zero_or_pos i with rfl | hp
      · rw [if_neg (by omega)]
        exact tail ((okAt_iff l 0).2 ⟨by omega, .inl rfl⟩)
      · rw [if_pos (by omega), wrap_back (by omega) hp, if_pos (by omega), if_pos (by omega), rd_nat]
        by_cases h1 : l.getD i 0 ≤ l.getD (i - 1) 0
        · rw [if_pos h1]
          have : okAt l i = false := by
            rw [Bool.eq_false_iff]
            intro h
            have := (okAt_iff l i).1 h
            omega
          simp [okFrom, this]
        · rw [if_neg h1]
          exact tail ((okAt_iff l i).2 ⟨by omega, .inr (by omega)⟩)
theorem rcan_eq (all : Bool) (l : List Int) (hn : l.length ≤ 140737488355328) (k : Nat) (hk : l.length < k) : purlieuref02_Can.f k all l = some (canB all l) := by
  unfold purlieuref02_Can.f canB
  cases all with
  | false =>
    have h := rcan_l0 l hn l.length k 0 (by omega) hk
    rw [show ((0 : Nat) : Int) = 0 from rfl] at h
    rw [h, if_neg (by simp)]
    unfold canL
    by_cases h0 : l.length = 0
    · rw [decide_eq_true h0, decide_eq_true (show l.length ≤ 32 by omega)]; rfl
    · rw [decide_eq_false h0]; rfl
  | true =>
    obtain ⟨k, rfl⟩ : ∃ m, k = m + 1 := ⟨k - 1, by omega⟩
    simp only [purlieuref02_Can.l0, if_true]
    by_cases h0 : l.length = 0
    · rw [if_neg (by omega)]; simp [h0]
    · rw [if_pos (by omega)]; simp [h0]
theorem rin_l0 (l : List Int) (x : Int) (hn : l.length ≤ 140737488355328) : ∀ (d k i : Nat), i + d = l.length → d < k → purlieuref02_In.l0 k l x (i : Int) = some ((l.drop i).contains x) := by
  intro d
  induction d with
  | zero =>
    intro k i hi hk
    obtain ⟨k, rfl⟩ : ∃ m, k = m + 1 := ⟨k - 1, by omega⟩
    simp only [purlieuref02_In.l0]
    rw [if_neg (by omega), List.drop_of_length_le (by omega)]
    rfl
  | succ d ih =>
    intro k i hi hk
    obtain ⟨k, rfl⟩ : ∃ m, k = m + 1 := ⟨k - 1, by omega⟩
    have hl : i < l.length := by omega
    simp only [purlieuref02_In.l0]
    rw [if_pos (by omega), if_pos (by omega), rd_nat, List.drop_eq_getElem_cons hl, List.getD_eq_getElem?_getD, List.getElem?_eq_getElem hl]
    simp only [Option.getD_some, List.contains_cons]
    by_cases h : l[i] = x
    · rw [if_pos h]; simp [h]
    · rw [if_neg h, wrap_step (by omega), ih k (i + 1) (by omega) (by omega)]
      have : (x == l[i]) = false := by simpa using fun e => h e.symm
      rw [this]; rfl
theorem rin_eq (l : List Int) (x : Int) (hn : l.length ≤ 140737488355328) (k : Nat) (hk : l.length < k) : purlieuref02_In.f k l x = some (l.contains x) := by
  unfold purlieuref02_In.f
  exact rin_l0 l x hn l.length k 0 (by omega) hk
theorem rhas_eq (all : Bool) (l : List Int) (c : Int) (hn : l.length ≤ 140737488355328) (k : Nat) (hk : l.length < k) : purlieuref02_Has.f k all l c = some (hasB all l c) := by
  unfold purlieuref02_Has.f hasB
  rw [rcan_eq all l hn k hk]
  simp only [Option.bind_some]
  by_cases hc : canB all l = true
  · rw [if_pos hc, hc]
    by_cases h0 : c ≥ 0
    · rw [if_pos h0, decide_eq_true (show 0 ≤ c from h0)]
      cases all with
      | true => rw [if_pos rfl]; simp
      | false => rw [if_neg (by simp), rin_eq l c hn k hk]; simp
    · rw [if_neg h0, decide_eq_false (show ¬ 0 ≤ c by omega)]; rfl
  · rw [if_neg hc, Bool.eq_false_iff.2 hc]; simp
theorem nums_l0 (a b : List Int) (hn : a.length ≤ 140737488355328) (hab : a.length = b.length) : ∀ (d k i : Nat), i + d = a.length → d < k → purlieuref02_Nums.l0 k a b (i : Int) = some (decide (a.drop i = b.drop i)) := by
  intro d
  induction d with
  | zero =>
    intro k i hi hk
    obtain ⟨k, rfl⟩ : ∃ m, k = m + 1 := ⟨k - 1, by omega⟩
    simp only [purlieuref02_Nums.l0]
    rw [if_neg (by omega), List.drop_of_length_le (by omega), List.drop_of_length_le (by omega)]
    rfl
  | succ d ih =>
    intro k i hi hk
    obtain ⟨k, rfl⟩ : ∃ m, k = m + 1 := ⟨k - 1, by omega⟩
    have hl : i < a.length := by omega
    have hl2 : i < b.length := by omega
    simp only [purlieuref02_Nums.l0]
    rw [if_pos (by omega), if_pos (by omega), if_pos (by omega), rd_nat, rd_nat, List.drop_eq_getElem_cons hl, List.drop_eq_getElem_cons hl2, List.getD_eq_getElem?_getD, List.getElem?_eq_getElem hl, List.getD_eq_getElem?_getD, List.getElem?_eq_getElem hl2]
    simp only [Option.getD_some, List.cons.injEq]
    by_cases h : a[i] = b[i]
    · rw [if_pos h, wrap_step (by omega), ih k (i + 1) (by omega) (by omega)]; simp [h]
    · rw [if_neg h]; simp [h]
theorem nums_eq (a b : List Int) (hn : a.length ≤ 140737488355328) (k : Nat) (hk : a.length < k) : purlieuref02_Nums.f k a b = some (decide (a = b)) := by
  unfold purlieuref02_Nums.f
  by_cases h : a.length = b.length
  · rw [if_pos (by omega)]
    exact nums_l0 a b hn h a.length k 0 (by omega) hk
  · rw [if_neg (by omega), decide_eq_false (fun e => h (congrArg List.length e))]
end Go.Proofs.YtphblnibjiohjaaDoor.PA
