/- The law WhiteMasks, as a plain statement, and its walk. -/
import Derived.Test.YtphblnibjiohjaaDoorMask
import Derived.Test.YtphblnibjiohjaaDoorW2
import Derived.Test.YtphblnibjiohjaaDoorPAx19
namespace Go.Proofs.YtphblnibjiohjaaDoor.PA
open Go.RowKit Go.Proofs.YtphblnibjiohjaaDoorW.PrintWords Go.Proofs.YtphblnibjiohjaaDoorW.PrintLast Go.Proofs.YtphblnibjiohjaaDoorW.PrintMore
theorem WhiteMasks (o m : Int) : ∃ k, purlieulaw02_WhiteMasks.f k o m = some true := by
  refine ⟨300, ?_⟩
  unfold purlieulaw02_WhiteMasks.f
  rw [mask_eq, rmask_eq o m 300 (by omega), lives_eq 300 (by omega)]
  simp only [Option.bind_some, if_true]
  by_cases h : (maskV o m).2 = 0
  · rw [if_pos h, if_pos (mask_within o m h)]
  · rw [if_neg h]
theorem whiteMasks_walk (W : World) (o : Int) (_ho : (Lit.int .i64 o).wf = true) (m : Int) (_hm : (Lit.int .i64 m).wf = true) :
    Calls Tryd.prog 6 #[.int .i64 o, .int .i64 m] W fun e w' => e = .returned (.bool true) ∧ Below W.heap.size W w' := by
  obtain ⟨k, hk⟩ := WhiteMasks o m
  exact purlieulaw02_WhiteMasks.calls k o m true W hk
end Go.Proofs.YtphblnibjiohjaaDoor.PA
