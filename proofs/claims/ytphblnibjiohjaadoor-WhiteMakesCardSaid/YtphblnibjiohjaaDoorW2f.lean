/- What makes a whitelist out of a list, in both packages: the document's way, one by one, and the program's, sorted and compacted, are one. -/
import Derived.Test.YtphblnibjiohjaaDoorRmake
import Derived.Test.YtphblnibjiohjaaDoorW1
import Derived.Test.YtphblnibjiohjaaDoorW1b
import Derived.Test.YtphblnibjiohjaaDoorW3
import Derived.Test.YtphblnibjiohjaaDoorPAx11
import Derived.Test.YtphblnibjiohjaaDoorPAx16
namespace Go.Proofs.YtphblnibjiohjaaDoor.PA
open Go.RowKit Go.Proofs.YtphblnibjiohjaaDoorW.PrintWords Go.Proofs.YtphblnibjiohjaaDoorW.PrintLast Go.Proofs.YtphblnibjiohjaaDoorW.PrintMore Go.Proofs.YtphblnibjiohjaaDoor.LibRow
set_option linter.unusedVariables false

theorem rIns_nil (x : Int) : rIns [] x = [x] := by simp [rIns, kOf]
theorem rIns_cons (a : Int) (r : List Int) (x : Int) : rIns (a :: r) x = if a < x then a :: rIns r x else x :: a :: r := by
  unfold rIns kOf
  by_cases h : a < x
  · rw [if_pos h, List.takeWhile_cons, if_pos (by simpa using h)]
    simp
  · rw [if_neg h, List.takeWhile_cons, if_neg (by simpa using h)]
    simp
theorem rIns_mem (x y : Int) : ∀ acc : List Int, y ∈ rIns acc x ↔ y = x ∨ y ∈ acc := by
  intro acc
  induction acc with
  | nil => simp [rIns_nil]
  | cons a r ih =>
    rw [rIns_cons]
    split
    · rw [List.mem_cons, ih, List.mem_cons]
      constructor
      · rintro (h | h | h)
        · exact .inr (.inl h)
        · exact .inl h
        · exact .inr (.inr h)
      · rintro (h | h | h)
        · exact .inr (.inl h)
        · exact .inl h
        · exact .inr (.inr h)
    · simp
theorem rIns_sorted (x : Int) : ∀ acc : List Int, acc.Pairwise (· < ·) → x ∉ acc → (rIns acc x).Pairwise (· < ·) := by
  intro acc
  induction acc with
  | nil => intro _ _; rw [rIns_nil]; simp
  | cons a r ih =>
    intro hs hx
    rw [List.pairwise_cons] at hs
    rw [rIns_cons]
    split
    · rename_i h
      rw [List.pairwise_cons]
      refine ⟨fun y hy => ?_, ih hs.2 (fun h' => hx (List.mem_cons_of_mem _ h'))⟩
      rcases (rIns_mem x y r).1 hy with rfl | h'
      · exact h
      · exact hs.1 y h'
    · rename_i h
      have hax : x < a := by
        have : x ≠ a := fun e => hx (by rw [e]; exact List.mem_cons_self)
        omega
      rw [List.pairwise_cons]
      refine ⟨fun y hy => ?_, List.pairwise_cons.2 hs⟩
      rcases List.mem_cons.1 hy with rfl | h'
      · exact hax
      · have := hs.1 y h'; omega

/-- A strictly rising list within another one is no longer. -/
theorem rise_le : ∀ (m s : List Int), s.Pairwise (· < ·) → m.Pairwise (· < ·) → (∀ z ∈ s, z ∈ m) → s.length ≤ m.length := by
  intro m
  induction m with
  | nil =>
    intro s _ _ h
    cases s with
    | nil => simp
    | cons x s => exact absurd (h x List.mem_cons_self) (by simp)
  | cons y m ih =>
    intro s hs hm h
    cases s with
    | nil => simp
    | cons x s =>
      rw [List.pairwise_cons] at hm
      have hs' := List.pairwise_cons.1 hs
      rcases List.mem_cons.1 (h x List.mem_cons_self) with rfl | hx
      · have := ih s hs'.2 hm.2 (fun z hz => by
          rcases List.mem_cons.1 (h z (List.mem_cons_of_mem _ hz)) with rfl | h'
          · exact absurd (hs'.1 _ hz) (by omega)
          · exact h')
        simp only [List.length_cons]
        omega
      · have := ih (x :: s) hs hm.2 (fun z hz => by
          rcases List.mem_cons.1 (h z hz) with rfl | h'
          · have h1 := hm.1 x hx
            rcases List.mem_cons.1 hz with rfl | hz
            · omega
            · have := hs'.1 _ hz; omega
          · exact h')
        simp only [List.length_cons] at this ⊢
        omega
/-- Two strictly rising lists with the same members are one. -/
theorem rise_eq : ∀ (m s : List Int), s.Pairwise (· < ·) → m.Pairwise (· < ·) → (∀ z, z ∈ s ↔ z ∈ m) → s = m := by
  intro m
  induction m with
  | nil =>
    intro s _ _ h
    cases s with
    | nil => rfl
    | cons x s => exact absurd ((h x).1 List.mem_cons_self) (by simp)
  | cons y m ih =>
    intro s hs hm h
    cases s with
    | nil => exact absurd ((h y).2 List.mem_cons_self) (by simp)
    | cons x s =>
      have hs' := List.pairwise_cons.1 hs
      have hm' := List.pairwise_cons.1 hm
      have e : x = y := by
        rcases List.mem_cons.1 ((h x).1 List.mem_cons_self) with e | hx
        · exact e
        · rcases List.mem_cons.1 ((h y).2 List.mem_cons_self) with e | hy
          · exact e.symm
          · have := hm'.1 x hx; have := hs'.1 y hy; omega
      subst e
      congr 1
      refine ih s hs'.2 hm'.2 fun z => ⟨fun hz => ?_, fun hz => ?_⟩
      · rcases List.mem_cons.1 ((h z).1 (List.mem_cons_of_mem _ hz)) with rfl | h'
        · exact absurd (hs'.1 _ hz) (by omega)
        · exact h'
      · rcases List.mem_cons.1 ((h z).2 (List.mem_cons_of_mem _ hz)) with rfl | h'
        · exact absurd (hm'.1 _ hz) (by omega)
        · exact h'

theorem rmake_some : ∀ (l acc r : List Int), acc.Pairwise (· < ·) → (∀ x ∈ acc, 0 ≤ x) → acc.length ≤ 32 → rmake acc l = some r →
    r.Pairwise (· < ·) ∧ (∀ y, y ∈ r ↔ y ∈ acc ∨ y ∈ l) ∧ (∀ x ∈ r, 0 ≤ x) ∧ r.length ≤ 32 := by
  intro l
  induction l with
  | nil =>
    intro acc r h1 h2 h3 h
    rw [rmake] at h
    obtain rfl := Option.some.inj h
    exact ⟨h1, fun y => by simp, h2, h3⟩
  | cons x l ih =>
    intro acc r h1 h2 h3 h
    rw [rmake] at h
    split at h
    · cases h
    · rename_i hx
      split at h
      · rename_i hc
        have hm := List.contains_iff_mem.1 hc
        obtain ⟨k1, k2, k3⟩ := ih acc r h1 h2 h3 h
        refine ⟨k1, fun y => ?_, k3⟩
        rw [k2, List.mem_cons]
        constructor
        · rintro (h | h)
          · exact .inl h
          · exact .inr (.inr h)
        · rintro (h | rfl | h)
          · exact .inl h
          · exact .inl hm
          · exact .inr h
      · rename_i hc
        have hm : x ∉ acc := fun h' => hc (List.contains_iff_mem.2 h')
        split at h
        · cases h
        · rename_i hl
          obtain ⟨k1, k2, k3⟩ := ih (rIns acc x) r (rIns_sorted x acc h1 hm) (fun y hy => by
            rcases (rIns_mem x y acc).1 hy with rfl | h'
            · omega
            · exact h2 y h') (by omega) h
          refine ⟨k1, fun y => ?_, k3⟩
          rw [k2, rIns_mem, List.mem_cons]
          constructor
          · rintro ((h | h) | h)
            · exact .inr (.inl h)
            · exact .inl h
            · exact .inr (.inr h)
          · rintro (h | h | h)
            · exact .inl (.inr h)
            · exact .inl (.inl h)
            · exact .inr h
theorem rmake_none : ∀ (l acc : List Int), acc.Pairwise (· < ·) → rmake acc l = none →
    (∃ x ∈ l, x < 0) ∨ ∃ s : List Int, s.Pairwise (· < ·) ∧ 32 < s.length ∧ ∀ y ∈ s, y ∈ acc ∨ y ∈ l := by
  intro l
  induction l with
  | nil => intro acc _ h; rw [rmake] at h; cases h
  | cons x l ih =>
    intro acc h1 h
    rw [rmake] at h
    split at h
    · rename_i hx
      exact .inl ⟨x, List.mem_cons_self, hx⟩
    · split at h
      · rcases ih acc h1 h with ⟨y, hy, h0⟩ | ⟨s, k1, k2, k3⟩
        · exact .inl ⟨y, List.mem_cons_of_mem _ hy, h0⟩
        · exact .inr ⟨s, k1, k2, fun y hy => (k3 y hy).imp id (List.mem_cons_of_mem _)⟩
      · rename_i hc
        have hm : x ∉ acc := fun h' => hc (List.contains_iff_mem.2 h')
        split at h
        · rename_i hl
          refine .inr ⟨rIns acc x, rIns_sorted x acc h1 hm, hl, fun y hy => ?_⟩
          rcases (rIns_mem x y acc).1 hy with rfl | h'
          · exact .inr List.mem_cons_self
          · exact .inl h'
        · rcases ih (rIns acc x) (rIns_sorted x acc h1 hm) h with ⟨y, hy, h0⟩ | ⟨s, k1, k2, k3⟩
          · exact .inl ⟨y, List.mem_cons_of_mem _ hy, h0⟩
          · refine .inr ⟨s, k1, k2, fun y hy => ?_⟩
            rcases k3 y hy with h' | h'
            · rcases (rIns_mem x y acc).1 h' with rfl | h''
              · exact .inr List.mem_cons_self
              · exact .inl h''
            · exact .inr (List.mem_cons_of_mem _ h')

/-! the program's -/
theorem bang (l : List Int) (j : Nat) (h : j < l.length) : l.toArray[j]! = l[j] := by
  rw [getElem!_pos l.toArray j (by simpa using h)]; simp
theorem compact_upto (l : List Int) (hs : l.Pairwise (· ≤ ·)) : ∀ m, m ≤ l.length →
    (Lib.compactUpTo l.toArray m).Pairwise (· < ·) ∧ ∀ y, y ∈ Lib.compactUpTo l.toArray m ↔ y ∈ l.take m := by
  intro m
  induction m with
  | zero => intro _; simp [Lib.compactUpTo]
  | succ m ih =>
    intro hm
    obtain ⟨h1, h2⟩ := ih (by omega)
    have hle : ∀ i j (hi : i < l.length) (hj : j < l.length), i < j → l[i] ≤ l[j] := fun i j hi hj hij => List.pairwise_iff_getElem.1 hs i j hi hj hij
    rw [Lib.compactUpTo_succ, bang l m (by omega), List.take_succ_eq_append_getElem (by omega)]
    by_cases hk : Lib.keeps l.toArray m = true
    · rw [if_pos hk]
      refine ⟨List.pairwise_append.2 ⟨h1, by simp, fun y hy z hz => ?_⟩, fun y => by simp only [List.mem_append, h2]⟩
      rw [List.mem_singleton] at hz
      subst hz
      rw [h2] at hy
      obtain ⟨i, hi, rfl⟩ := List.getElem_of_mem hy
      rw [List.length_take] at hi
      rw [List.getElem_take]
      have hd : l[m] ≠ l[m - 1] := by
        unfold Lib.keeps at hk
        rw [decide_eq_true_iff] at hk
        rcases hk with hk | hk
        · omega
        · rwa [bang l m (by omega), bang l (m - 1) (by omega)] at hk
      have h3 : l[m - 1] ≤ l[m] := hle (m - 1) m (by omega) (by omega) (by omega)
      rcases Nat.eq_or_lt_of_le (show i ≤ m - 1 by omega) with h4 | h4
      · subst h4; omega
      · have := hle i (m - 1) (by omega) (by omega) h4
        omega
    · rw [if_neg hk, List.append_nil]
      refine ⟨h1, fun y => ?_⟩
      rw [h2, List.mem_append, List.mem_singleton]
      constructor
      · exact .inl
      · rintro (h | rfl)
        · exact h
        · unfold Lib.keeps at hk
          rw [decide_eq_true_iff] at hk
          have hm0 : m ≠ 0 := fun h => hk (.inl h)
          have he : l[m] = l[m - 1] := by
            by_cases h : l[m] = l[m - 1]
            · exact h
            · exact absurd (.inr (by rwa [bang l m (by omega), bang l (m - 1) (by omega)])) hk
          rw [he]
          exact List.mem_iff_getElem.2 ⟨m - 1, by rw [List.length_take]; omega, by rw [List.getElem_take]⟩
theorem made_sorted (l : List Int) : (madeL l).Pairwise (· < ·) ∧ ∀ y, y ∈ madeL l ↔ y ∈ l := by
  have hs : (sorted l).Pairwise (· ≤ ·) := by
    have := List.pairwise_mergeSort (le := fun x y : Int => decide (x ≤ y)) (fun a b c h1 h2 => by simp at *; omega) (fun a b => by simp; omega) l
    unfold sorted
    exact this.imp (by simp)
  obtain ⟨h1, h2⟩ := compact_upto (sorted l) hs (sorted l).length (Nat.le_refl _)
  refine ⟨h1, fun y => ?_⟩
  unfold madeL Lib.compact
  rw [h2, List.take_length]
  exact List.mem_mergeSort
/-- The document's list is the program's. -/
theorem rmake_made (l : List Int) : rmake [] l = if canL (madeL l) = true then some (madeL l) else none := by
  obtain ⟨h1, h2⟩ := made_sorted l
  cases h : rmake [] l with
  | some r =>
    obtain ⟨k1, k2, k3, k4⟩ := rmake_some l [] r (by simp) (by simp) (by simp) h
    have e : r = madeL l := rise_eq _ _ k1 h1 fun z => by rw [k2, h2]; simp
    subst e
    rw [if_pos ((canL_iff' _).2 ⟨h1, k3, k4⟩)]
  | none =>
    rw [if_neg]
    intro hc
    obtain ⟨-, c2, c3⟩ := (canL_iff' _).1 hc
    rcases rmake_none l [] (by simp) h with ⟨x, hx, h0⟩ | ⟨s, k1, k2, k3⟩
    · have := c2 x ((h2 x).2 hx); omega
    · have := rise_le (madeL l) s k1 h1 (fun z hz => (h2 z).2 (by simpa using k3 z hz))
      omega
theorem few_eq (l : List Int) : purlieulaw02_few.f l = some (l.take 200) := by
  unfold purlieulaw02_few.f
  by_cases h1 : (l.length : Int) > 200
  · rw [if_pos h1, if_pos (by omega)]
    simp only [Option.bind_some, List.nil_append]
    rw [if_pos (by simp; omega)]
  · rw [if_neg h1, List.take_of_length_le (by omega)]
    simp only [Option.bind_some, List.nil_append]
    rw [if_pos (by simp; omega)]
def mkR (l : List Int) : Bool × List Int × Int := if canL (madeL l) = true then (false, madeL l, 0) else (false, [], 22)
theorem wmade_eq (l : List Int) (h : l.length ≤ 200) : white_made.f l = some (mkR l) := by
  unfold white_made.f mkR
  rw [if_pos (by omega)]
  split <;> rfl
theorem wmake_eq (l : List Int) (h : l.length ≤ 200) : white_Make.f l = some (mkR l) := by
  unfold white_Make.f
  rw [wmade_eq l h]
  rfl
theorem rmake_f (l : List Int) (h : l.length ≤ 200) : purlieuref02_Make.f l = some (mkR l) := by
  unfold purlieuref02_Make.f mkR
  rw [if_pos (by omega), rmake_made]
  split
  · rename_i hh; split at hh
    · rename_i hc; obtain rfl := Option.some.inj hh; rw [if_pos hc]
    · cases hh
  · rename_i hh; split at hh
    · cases hh
    · rename_i hc; rw [if_neg hc]
theorem mk_can (l : List Int) : canB (mkR l).1 (mkR l).2.1 = true := by
  unfold mkR
  by_cases h : canL (madeL l) = true
  · rw [if_pos h]; simpa [canB] using h
  · rw [if_neg h]; decide
theorem mk_len (l : List Int) (h : l.length ≤ 200) : (mkR l).2.1.length ≤ 200 := by
  have := mk_can l
  unfold canB at this
  split at this
  · simp only [beq_iff_eq] at this; omega
  · have := ((canL_iff' _).1 this).2.2; omega
end Go.Proofs.YtphblnibjiohjaaDoor.PA
