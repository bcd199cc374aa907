/- The law WhiteShows: its walk. -/
import Derived.Test.YtphblnibjiohjaaDoorW2w
import Derived.Test.YtphblnibjiohjaaDoorW3
import Derived.Test.YtphblnibjiohjaaDoorShw
import Derived.OpenShut
import Derived.LaidSub
import Derived.MakeChecks
namespace Go.Proofs.YtphblnibjiohjaaDoor.PA
open Go.RowKit Go.Proofs.YtphblnibjiohjaaDoorW.PrintWords Go.Proofs.YtphblnibjiohjaaDoorW.PrintLast Go.Proofs.YtphblnibjiohjaaDoorW.PrintMore
theorem showT_eq (a : Bool) (l : List Int) (hl : l.length ≤ 200) (hb : ∀ x ∈ l, -9223372036854775808 ≤ x ∧ x ≤ 9223372036854775807) : white_ShowT.f a l = some ⟨(showL a l).toArray⟩ := by
  unfold white_ShowT.f
  rw [if_pos ⟨by omega, hb⟩]
theorem WhiteShows (a b : Bool) (l m : List Int) (hbl : ∀ x ∈ l, -9223372036854775808 ≤ x ∧ x ≤ 9223372036854775807) (hbm : ∀ x ∈ m, -9223372036854775808 ≤ x ∧ x ≤ 9223372036854775807) : ∃ k, purlieulaw02_WhiteShows.f k a l b m = some true := by
  refine ⟨600, ?_⟩
  have hl := len2 l
  have hm := len2 m
  have h1 : ∀ x ∈ l.take 200, -9223372036854775808 ≤ x ∧ x ≤ 9223372036854775807 := fun x hx => hbl x (List.mem_of_mem_take hx)
  have h2 : ∀ x ∈ m.take 200, -9223372036854775808 ≤ x ∧ x ≤ 9223372036854775807 := fun x hx => hbm x (List.mem_of_mem_take hx)
  unfold purlieulaw02_WhiteShows.f
  simp only [short_eq, Option.bind_some, take2]
  rw [showT_eq a _ hl h1, showT_eq b _ hm h2, rshow_eq a _ (by omega) h1 600 (by omega), rcan_eq a _ (by omega) 600 (by omega), rcan_eq b _ (by omega) 600 (by omega), same_eq _ _ _ _ (by omega) 600 (by omega), lives_eq 600 (by omega)]
  simp only [Option.bind_some]
  rw [if_pos trivial]
  by_cases ca : canB a (l.take 200) = true
  · rw [if_pos ca]
    by_cases cb : canB b (m.take 200) = true
    · rw [if_pos cb, if_pos]
      rw [beq_iff_eq, Bool.eq_iff_iff, beq_iff_eq]
      simp only [ByteArray.toList_mk, Bool.and_eq_true, decide_eq_true_eq]
      exact show_inj a b _ _ ca cb
    · rw [if_neg cb]
  · rw [if_neg ca]
theorem whiteShows_walk (W : World) {a0 : Option Addr} {len0 cap0 : Nat} {zs0 : List Int} (o0 : Bool) (h0 : RowIs W a0 len0 cap0 zs0) {a1 : Option Addr} {len1 cap1 : Nat} {zs1 : List Int} (o1 : Bool) (h1 : RowIs W a1 len1 cap1 zs1) (ht : Tab W) :
    Calls Tryd.prog 4 #[.agg #[.bool o0, .slice a0 len0 cap0], .agg #[.bool o1, .slice a1 len1 cap1]] W fun e w' => e = .returned (.bool true) ∧ Below W.heap.size W w' := by
  obtain ⟨l, rfl, hr, hl, hw⟩ := row_C h0
  obtain ⟨m, rfl, hr1, hl1, hw1⟩ := row_C h1
  have wf : ∀ x : Int, (Lit.int .i64 x).wf = true → -9223372036854775808 ≤ x ∧ x ≤ 9223372036854775807 := fun x h => by
    have := Go.range_i64 (zs := [x]) (fun n hn => by obtain rfl := List.mem_singleton.1 hn; exact h) 0
    exact this
  obtain ⟨k, hk⟩ := WhiteShows o0 o1 l m (fun x hx => wf x (hw x hx)) (fun x hx => wf x (hw1 x hx))
  exact purlieulaw02_WhiteShows.calls k o0 a0 cap0 l o1 a1 cap1 m true W hr hl hr1 hl1 ht hk
theorem laid_tab {W : World} {l : List (String × DataW Unit)} (h : laidMetH Tryd.prog l W) (hf : l.filter (fun x => x.1 == "internal/strconv.uint64pow10") = [("internal/strconv.uint64pow10", Lib.tabData .u64 Lib.pow10Tab)]) : Tab W := by
  have h1 := h.filter (fun x => x.1 == "internal/strconv.uint64pow10")
  rw [hf] at h1
  exact Lib.tabIs_of_head (P := Tryd.prog) (g := 0) (t := 89) (e := 70) (n := 20) (by kernel_rfl) (by kernel_rfl) (by kernel_rfl) (by kernel_rfl) (by kernel_rfl) (by kernel_rfl) (show laidMet Tryd.prog [("internal/strconv.uint64pow10", Lib.tabData .u64 Lib.pow10Tab)] W from h1)
end Go.Proofs.YtphblnibjiohjaaDoor.PA
