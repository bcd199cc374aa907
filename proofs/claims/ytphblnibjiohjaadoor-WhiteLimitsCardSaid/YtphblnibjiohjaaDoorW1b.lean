/- What purlieuref02.Same answers. -/
import Derived.Test.YtphblnibjiohjaaDoorW1
import Derived.Test.YtphblnibjiohjaaDoorPAx11
namespace Go.Proofs.YtphblnibjiohjaaDoor.PA
open Go.RowKit Go.Proofs.YtphblnibjiohjaaDoorW.PrintWords Go.Proofs.YtphblnibjiohjaaDoorW.PrintLast Go.Proofs.YtphblnibjiohjaaDoorW.PrintMore
theorem same_eq (a0 : Bool) (a : List Int) (b0 : Bool) (b : List Int) (hn : a.length ≤ 140737488355328) (k : Nat) (hk : a.length < k) : purlieuref02_Same.f k a0 a b0 b = some (decide (a0 = b0) && decide (a = b)) := by
  unfold purlieuref02_Same.f
  by_cases h : a0 = b0
  · rw [if_pos (by simpa using h), nums_eq a b hn k hk, decide_eq_true h]; rfl
  · rw [if_neg (by simpa using h), decide_eq_false h]; rfl
end Go.Proofs.YtphblnibjiohjaaDoor.PA
