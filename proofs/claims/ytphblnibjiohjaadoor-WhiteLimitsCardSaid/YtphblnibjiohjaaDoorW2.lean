/- The laws of white, as plain statements: what each printed law function answers. -/
import Derived.Test.YtphblnibjiohjaaDoorPAx17
import Derived.Test.YtphblnibjiohjaaDoorPAx16
import Derived.Test.YtphblnibjiohjaaDoorPAx1
import Derived.Test.YtphblnibjiohjaaDoorW1
namespace Go.Proofs.YtphblnibjiohjaaDoor.PA
open Go.RowKit Go.Proofs.YtphblnibjiohjaaDoorW.PrintWords Go.Proofs.YtphblnibjiohjaaDoorW.PrintLast Go.Proofs.YtphblnibjiohjaaDoorW.PrintMore

theorem own_eq (a : Bool) (l : List Int) (h : l.length < 17592186044416) : purlieuref02_Own.f a l = some (a, l) := by
  unfold purlieuref02_Own.f
  simp [h]
theorem short_eq (a : Bool) (l : List Int) : purlieulaw02_short.f a l = some (a, l.take 200) := by
  unfold purlieulaw02_short.f
  by_cases h1 : (l.length : Int) > 200
  · rw [if_pos h1, if_pos (by omega), own_eq a (l.take 200) (by rw [List.length_take]; omega)]; rfl
  · rw [if_neg h1, own_eq a l (by omega), List.take_of_length_le (by omega)]; rfl
theorem take2 (l : List Int) : (l.take 200).take 200 = l.take 200 := by rw [List.take_take, Nat.min_self]
theorem len2 (l : List Int) : (l.take 200).length ≤ 200 := List.length_take_le _ _

theorem made313 : madeL [3, 1, 3] = [1, 3] := by
  have h : LibRow.sorted [3, 1, 3] = [1, 3, 3] := by simp [LibRow.sorted, List.mergeSort, List.MergeSort.Internal.splitInTwo]
  unfold madeL
  rw [h]
  decide +kernel
theorem lives_eq (k : Nat) (hk : 100 ≤ k) : purlieulaw02_lives.f k = some true := by
  unfold purlieulaw02_lives.f white_Make.f white_made.f
  rw [if_pos (by simp), made313, if_pos (by decide)]
  simp only [Option.bind_some]
  rw [nums_eq [1, 3] [1, 3] (by simp) k (by simp; omega)]
  simp only [Option.bind_some]
  rw [if_pos (by decide)]
  simp only [if_true]
  unfold white_All.f
  simp only [Option.bind_some]
  rw [Has_eq true [] 7 (by simp) k (by simp; omega)]
  simp only [Option.bind_some]
  rw [if_pos (by decide)]
  unfold white_Show.f
  rw [if_pos (by refine ⟨by simp, ?_⟩; intro x hx; simp at hx; rcases hx with rfl | rfl <;> omega)]
  simp only [Option.bind_some]
  decide +kernel

theorem WhiteHas (a : Bool) (l : List Int) (c : Int) : ∃ k, purlieulaw02_WhiteHas.f k a l c = some true := by
  refine ⟨300, ?_⟩
  have h2 := len2 l
  unfold purlieulaw02_WhiteHas.f
  rw [short_eq a l]
  simp only [Option.bind_some]
  rw [short_eq a _, take2]
  simp only [Option.bind_some]
  rw [Has_eq a _ c (by omega) 300 (by omega), rhas_eq a _ c (by omega) 300 (by omega)]
  simp only [Option.bind_some]
  rw [if_pos (by simp), lives_eq 300 (by omega)]
  rfl
end Go.Proofs.YtphblnibjiohjaaDoor.PA
