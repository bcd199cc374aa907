/- white.Show at any numbers, where strconv's table holds what the program's text lays. -/
import Derived.Test.YtphblnibjiohjaaDoorShow
import Derived.LaidSub
import Derived.MakeChecks
namespace Go.Proofs.YtphblnibjiohjaaDoor.PA
open Go.RowKit Go.Proofs.YtphblnibjiohjaaDoorW.PrintWords Go.Proofs.YtphblnibjiohjaaDoorW.PrintLast Go.Proofs.YtphblnibjiohjaaDoorW.PrintMore
def Tab (w : World) : Prop := Lib.TabIs Tryd.prog w "internal/strconv.uint64pow10" .u64 Lib.pow10Tab
theorem tab_below {w w' : World} (h : Tab w) (hb : Below w.heap.size w w') : Tab w' := by
  unfold Tab Lib.TabIs World.var? at h ⊢
  obtain ⟨g, hg, hh⟩ := Option.bind_eq_some_iff.1 h
  rw [hg]
  show (match w'.heap[g]? with | some (.cells cs _ _) => some cs | _ => none) = _
  rw [hb.block g ?_]
  · exact hh
  · rcases Nat.lt_or_ge g w.heap.size with h' | h'
    · exact h'
    · rw [Array.getElem?_eq_none h'] at hh
      cases hh
def white_ShowT.f (a0_0 : Bool) (l0_1 : List Int) : Option ByteArray := if l0_1.length ≤ 140737488355328 ∧ ∀ x ∈ l0_1, -9223372036854775808 ≤ x ∧ x ≤ 9223372036854775807 then some ⟨(showL a0_0 l0_1).toArray⟩ else none
theorem white_ShowT.calls (a0_0 : Bool) (A0_1 : Option Addr) (c0_1 : Nat) (l0_1 : List Int) (r : ByteArray) (w : World) (hr0_1 : Kd.C (Kd.int .i64) w A0_1 l0_1.length l0_1) (hc0_1 : l0_1.length ≤ c0_1) (h : white_ShowT.f a0_0 l0_1 = some r) (htab : Tab w) :
    Calls Tryd.prog 13 #[.agg #[.bool a0_0, .slice A0_1 l0_1.length c0_1]] w fun e w' => e = .returned (.string r) ∧ Below w.heap.size w w' := by
  unfold white_ShowT.f at h
  by_cases hh : l0_1.length ≤ 140737488355328 ∧ ∀ x ∈ l0_1, -9223372036854775808 ≤ x ∧ x ≤ 9223372036854775807
  · rw [if_pos hh] at h
    obtain rfl := Option.some.inj h
    refine show_any a0_0 A0_1 c0_1 l0_1 w hr0_1 hc0_1 hh.1 hh.2 (fun x hx W hW => ?_)
    refine (Tryd.strconv_Itoa x (hh.2 x hx).1 (hh.2 x hx).2 W (tab_below htab hW)).mono ?_
    rintro e w' ⟨rfl, k, os, rfl⟩
    refine ⟨rfl, ?_⟩
    have h1 : Below W.heap.size W (W.drewN k) := pw_below_drewN (Below.refl _ _) k
    refine h1.trans (Below.mk rfl rfl rfl (by simp [Sort.grow]) fun j hj => ?_)
    show ((W.drewN k).heap ++ os)[j]? = (W.drewN k).heap[j]?
    rw [Array.getElem?_append_left (Nat.lt_of_lt_of_le hj h1.size)]
  · rw [if_neg hh] at h
    cases h
end Go.Proofs.YtphblnibjiohjaaDoor.PA
