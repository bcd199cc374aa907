/- The law WhiteMakes, as a plain statement, and its walk. -/
import Derived.Test.YtphblnibjiohjaaDoorW2f
import Derived.Test.YtphblnibjiohjaaDoorMks
namespace Go.Proofs.YtphblnibjiohjaaDoor.PA
open Go.RowKit Go.Proofs.YtphblnibjiohjaaDoorW.PrintWords Go.Proofs.YtphblnibjiohjaaDoorW.PrintLast Go.Proofs.YtphblnibjiohjaaDoorW.PrintMore
set_option linter.unusedVariables false
theorem WhiteMakes (l : List Int) (a : Bool) (m : List Int) : ∃ k, purlieulaw02_WhiteMakes.f k l a m = some true := by
  refine ⟨600, ?_⟩
  have hl := len2 l
  have hm := len2 m
  have hr := mk_len (l.take 200) hl
  unfold purlieulaw02_WhiteMakes.f white_Can.f
  simp only [few_eq, short_eq, Option.bind_some, take2]
  rw [wmake_eq _ hl, rmake_f _ hl]
  simp only [Option.bind_some]
  rw [same_eq _ _ _ _ (by omega) 600 (by omega)]
  simp only [Option.bind_some]
  rw [if_pos (by simp), can_all a _ (by omega) 600 (by omega), rcan_eq a _ (by omega) 600 (by omega), can_all _ _ (by omega) 600 (by omega), mk_can, lives_eq 600 (by omega)]
  simp
theorem whiteMakes_walk (W : World) {a0 : Option Addr} {len0 cap0 : Nat} {zs0 : List Int} (h0 : RowIs W a0 len0 cap0 zs0) {a1 : Option Addr} {len1 cap1 : Nat} {zs1 : List Int} (o1 : Bool) (h1 : RowIs W a1 len1 cap1 zs1) :
    Calls Tryd.prog 5 #[.slice a0 len0 cap0, .agg #[.bool o1, .slice a1 len1 cap1]] W fun e w' => e = .returned (.bool true) ∧ Below W.heap.size W w' := by
  obtain ⟨l, rfl, hr, hl, _⟩ := row_C h0
  obtain ⟨m, rfl, hr1, hl1, _⟩ := row_C h1
  obtain ⟨k, hk⟩ := WhiteMakes l o1 m
  exact purlieulaw02_WhiteMakes.calls k a0 cap0 l o1 a1 cap1 m true W hr hl hr1 hl1 rfl hk
end Go.Proofs.YtphblnibjiohjaaDoor.PA
