/- Parts of one proof, put together by a program of this session's (wip/merge.py). -/
import Derived.Test.YtilfalpfanaanaaMClones0
import Derived.Test.YtilfalpfanaanaaMClones1
set_option linter.unusedVariables false
set_option linter.unusedSimpArgs false
namespace Go.Proofs.Ytilfalpfanaanaa.PA
open Go.RowKit Go.Proofs.YtilfalpfanaanaaW.PrintWords Go.Proofs.YtilfalpfanaanaaW.PrintLast Go.Proofs.YtilfalpfanaanaaW.PrintMore
attribute [local go_sem] max2_int min2_int max_two min_two max_three min_three max_four min_four   -- for this text's walks alone
def purlieuref02_Same.f (k : Nat) (a0_0 : Bool) (l0_1 : List Int) (a1_0 : Bool) (l1_1 : List Int) : Option (Bool) := if (a0_0 == a1_0) = true then ((purlieuref02_Nums.f k l0_1 l1_1).bind fun t119 => (some t119)) else (some false)
set_option maxHeartbeats 8000000 in
set_option maxRecDepth 100000 in
theorem purlieuref02_Same.calls (k : Nat) (a0_0 : Bool) (A0_1 : Option Addr) (c0_1 : Nat) (l0_1 : List Int) (a1_0 : Bool) (A1_1 : Option Addr) (c1_1 : Nat) (l1_1 : List Int) (r : Bool) (w : World) (hr0_1 : Kd.C (Kd.int .i64) w A0_1 l0_1.length l0_1) (hc0_1 : l0_1.length ≤ c0_1) (hr1_1 : Kd.C (Kd.int .i64) w A1_1 l1_1.length l1_1) (hc1_1 : l1_1.length ≤ c1_1) (h : purlieuref02_Same.f k a0_0 l0_1 a1_0 l1_1 = some r) :
    Calls Try.prog 43 #[.agg #[.bool a0_0, .slice A0_1 l0_1.length c0_1], .agg #[.bool a1_0, .slice A1_1 l1_1.length c1_1]] w fun e w' => e = .returned (.bool r) ∧ Below w.heap.size w w' := by
  have hu26 := Try.underlying26
  have HR0_1 := Aside0.mk hr0_1
  have HC0_1 := Aside0.mk hc0_1
  clear hr0_1 hc0_1
  have HR1_1 := Aside0.mk hr1_1
  have HC1_1 := Aside0.mk hc1_1
  clear hr1_1 hc1_1
  have HB := Aside0.mk (Below.refl w.heap.size w)
  have H : (if (a0_0 == a1_0) = true then ((purlieuref02_Nums.f k l0_1 l1_1).bind fun t119 => (some t119)) else (some false)) = some r := h
  clear h
  by_cases c3 : (a0_0 == a1_0) = true
  · rw [if_pos c3] at H
    have c3b0 : (a0_0 == a1_0) = true := c3
    (try (have c3b1 : decide (a0_0 = a1_0) = true := by simpa using c3))
    (try (have c3b2 : (a0_0 == a1_0) = true := by simpa using c3))
    clear c3
    replace H := Option.bind_eq_some_iff.mp H
    obtain ⟨t119, A40, H⟩ := H
    replace H : (some t119) = some r := H
    have A4 := Aside0.mk A40
    clear A40
    obtain rfl := Option.some.inj H
    go_enter Try.func43, Try.ntmps43
    go_wp2_with (first | ((with_reducible refine gate_dst (N := 2) rfl ?_); refine box_event ?hg (N := 2) ?hd (cs := #[.bool a0_0, .slice A0_1 l0_1.length c0_1]) (t := 26) ?hr ?_; (case hd => rfl); (case hg => rfl); (case hr => first | (go_simp; done) | (go_simp; rfl)); intro gb117 hg w5 hbox hb; have n0_ := Aside0.mk (below_step (by repeat (first | (with_reducible first | exact HB.out | apply below_alloc | apply pw_below_drewN | apply below_drew1) | exact HB.out)) hb); have n1_ := Aside0.mk (hbox); have n2_ := Aside0.mk ((by rw [hg]; exact (below_size (by repeat (first | (with_reducible first | exact HB.out | apply below_alloc | apply pw_below_drewN | apply below_drew1) | exact HB.out))) : w.heap.size ≤ gb117)); have n3_ := Aside0.mk ((by rw [hg]; exact (below_size (by repeat (first | (with_reducible first | exact HB.out | apply below_alloc | apply pw_below_drewN | apply below_drew1) | exact HB.out))) : w.heap.size ≤ gb117)); clear HB; have HB := n0_; have BK117 := n1_; have GW117 := n2_; have GE117 := n3_; clear n0_ n1_ n2_ n3_; clear hb hbox hg) | ((with_reducible refine gate_dst (N := 3) rfl ?_); refine box_event ?hg (N := 3) ?hd (cs := #[.bool a1_0, .slice A1_1 l1_1.length c1_1]) (t := 26) ?hr ?_; (case hd => rfl); (case hg => rfl); (case hr => first | (go_simp; done) | (go_simp; rfl)); intro gb118 hg w6 hbox hb; have n0_ := Aside0.mk (blk_below (g := gb117) (o := .cells #[.bool a0_0, .slice A0_1 l0_1.length c0_1] 26 (0, 0)) (by (with_reducible repeat (first | refine blk_drewN ?_ _ | refine blk_drew ?_ | refine blk_alloc ?_ _)); exact BK117.out) hb); have n1_ := Aside0.mk (below_step (by repeat (first | (with_reducible first | exact HB.out | apply below_alloc | apply pw_below_drewN | apply below_drew1 | refine below_set ?_ GE117.out) | exact HB.out)) hb); have n2_ := Aside0.mk (hbox); have n3_ := Aside0.mk ((by rw [hg]; exact (below_size (by repeat (first | (with_reducible first | exact HB.out | apply below_alloc | apply pw_below_drewN | apply below_drew1 | refine below_set ?_ GE117.out) | exact HB.out))) : w.heap.size ≤ gb118)); have n4_ := Aside0.mk ((by rw [hg]; exact (below_size (by repeat (first | (with_reducible first | exact HB.out | apply below_alloc | apply pw_below_drewN | apply below_drew1 | refine below_set ?_ GE117.out) | exact HB.out))) : w.heap.size ≤ gb118)); have n5_ := Aside0.mk ((by rw [hg]; exact Nat.ne_of_lt (blk_lt (g := gb117) (o := .cells #[.bool a0_0, .slice A0_1 l0_1.length c0_1] 26 (0, 0)) (by (with_reducible repeat (first | refine blk_drewN ?_ _ | refine blk_drew ?_ | refine blk_alloc ?_ _)); exact BK117.out)) : gb117 ≠ gb118)); have n6_ := Aside0.mk ((by rw [hg]; exact Nat.ne_of_gt (blk_lt (g := gb117) (o := .cells #[.bool a0_0, .slice A0_1 l0_1.length c0_1] 26 (0, 0)) (by (with_reducible repeat (first | refine blk_drewN ?_ _ | refine blk_drew ?_ | refine blk_alloc ?_ _)); exact BK117.out)) : gb118 ≠ gb117)); clear BK117; clear HB; have BK117 := n0_; have HB := n1_; have BK118 := n2_; have GW118 := n3_; have GE118 := n4_; have NB117_118 := n5_; have NB118_117 := n6_; clear n0_ n1_ n2_ n3_ n4_ n5_ n6_; clear hb hbox hg; have hnb7 := NB117_118.out; have hnc7 := NB118_117.out; have hcz8_0 : w6.cell? ⟨gb117, 0, none⟩ = some (.bool a0_0) := (blk_cell BK117.out 0).trans rfl; have hcz8_1 : w6.cell? ⟨gb117, 1, none⟩ = some (.slice A0_1 l0_1.length c0_1) := (blk_cell BK117.out 1).trans rfl; have hfz8_0 := blk_frozen BK117.out 0; have hfz8_1 := blk_frozen BK117.out 1; have hcz9_0 : w6.cell? ⟨gb118, 0, none⟩ = some (.bool a1_0) := (blk_cell BK118.out 0).trans rfl; have hcz9_1 : w6.cell? ⟨gb118, 1, none⟩ = some (.slice A1_1 l1_1.length c1_1) := (blk_cell BK118.out 1).trans rfl; have hfz9_0 := blk_frozen BK118.out 0; have hfz9_1 := blk_frozen BK118.out 1) | (go_at_call 49; (with_reducible refine (purlieuref02_Nums.calls k _ _ l0_1 _ _ l1_1 t119 _ ?side1 ?side2 ?side3 ?side4 A4.out).mono ?_); (case side1 => repeat (first | exact (Kd.C_below HR0_1.out HB.out) | (with_reducible refine Kd.C_alloc ?_ _) | (with_reducible refine Kd.C_drewN ?_ _) | (with_reducible refine Kd.C_drew ?_))); (case side2 => exact HC0_1.out); (case side3 => repeat (first | exact (Kd.C_below HR1_1.out HB.out) | (with_reducible refine Kd.C_alloc ?_ _) | (with_reducible refine Kd.C_drewN ?_ _) | (with_reducible refine Kd.C_drew ?_))); (case side4 => exact HC1_1.out); rintro e w' ⟨rfl, ⟨nd, rfl⟩⟩))
    go_ret
    exact ⟨by first | rfl | (simp [errW_none, errW_some] <;> rfl) | (simp [*, errW_none, errW_some] <;> rfl), by repeat (first | (with_reducible first | exact HB.out | apply below_alloc | apply pw_below_drewN | apply below_drew1 | refine below_set ?_ GE117.out | refine below_set ?_ GE118.out) | exact HB.out)⟩
  · rw [if_neg c3] at H
    have c3b0 : (a0_0 == a1_0) = false := by simpa using c3
    (try (have c3b1 : decide (a0_0 = a1_0) = false := by simpa using c3))
    (try (have c3b2 : (a0_0 == a1_0) = false := by simpa using c3))
    (try (have c3b3 : ¬ (a0_0 = a1_0) := by simpa using c3))
    clear c3
    obtain rfl := Option.some.inj H
    go_enter Try.func43, Try.ntmps43
    go_wp2_with (first | ((with_reducible refine gate_dst (N := 2) rfl ?_); refine box_event ?hg (N := 2) ?hd (cs := #[.bool a0_0, .slice A0_1 l0_1.length c0_1]) (t := 26) ?hr ?_; (case hd => rfl); (case hg => rfl); (case hr => first | (go_simp; done) | (go_simp; rfl)); intro gb117 hg w10 hbox hb; have n0_ := Aside0.mk (below_step (by repeat (first | (with_reducible first | exact HB.out | apply below_alloc | apply pw_below_drewN | apply below_drew1) | exact HB.out)) hb); have n1_ := Aside0.mk (hbox); have n2_ := Aside0.mk ((by rw [hg]; exact (below_size (by repeat (first | (with_reducible first | exact HB.out | apply below_alloc | apply pw_below_drewN | apply below_drew1) | exact HB.out))) : w.heap.size ≤ gb117)); have n3_ := Aside0.mk ((by rw [hg]; exact (below_size (by repeat (first | (with_reducible first | exact HB.out | apply below_alloc | apply pw_below_drewN | apply below_drew1) | exact HB.out))) : w.heap.size ≤ gb117)); clear HB; have HB := n0_; have BK117 := n1_; have GW117 := n2_; have GE117 := n3_; clear n0_ n1_ n2_ n3_; clear hb hbox hg) | ((with_reducible refine gate_dst (N := 3) rfl ?_); refine box_event ?hg (N := 3) ?hd (cs := #[.bool a1_0, .slice A1_1 l1_1.length c1_1]) (t := 26) ?hr ?_; (case hd => rfl); (case hg => rfl); (case hr => first | (go_simp; done) | (go_simp; rfl)); intro gb118 hg w11 hbox hb; have n0_ := Aside0.mk (blk_below (g := gb117) (o := .cells #[.bool a0_0, .slice A0_1 l0_1.length c0_1] 26 (0, 0)) (by (with_reducible repeat (first | refine blk_drewN ?_ _ | refine blk_drew ?_ | refine blk_alloc ?_ _)); exact BK117.out) hb); have n1_ := Aside0.mk (below_step (by repeat (first | (with_reducible first | exact HB.out | apply below_alloc | apply pw_below_drewN | apply below_drew1 | refine below_set ?_ GE117.out) | exact HB.out)) hb); have n2_ := Aside0.mk (hbox); have n3_ := Aside0.mk ((by rw [hg]; exact (below_size (by repeat (first | (with_reducible first | exact HB.out | apply below_alloc | apply pw_below_drewN | apply below_drew1 | refine below_set ?_ GE117.out) | exact HB.out))) : w.heap.size ≤ gb118)); have n4_ := Aside0.mk ((by rw [hg]; exact (below_size (by repeat (first | (with_reducible first | exact HB.out | apply below_alloc | apply pw_below_drewN | apply below_drew1 | refine below_set ?_ GE117.out) | exact HB.out))) : w.heap.size ≤ gb118)); have n5_ := Aside0.mk ((by rw [hg]; exact Nat.ne_of_lt (blk_lt (g := gb117) (o := .cells #[.bool a0_0, .slice A0_1 l0_1.length c0_1] 26 (0, 0)) (by (with_reducible repeat (first | refine blk_drewN ?_ _ | refine blk_drew ?_ | refine blk_alloc ?_ _)); exact BK117.out)) : gb117 ≠ gb118)); have n6_ := Aside0.mk ((by rw [hg]; exact Nat.ne_of_gt (blk_lt (g := gb117) (o := .cells #[.bool a0_0, .slice A0_1 l0_1.length c0_1] 26 (0, 0)) (by (with_reducible repeat (first | refine blk_drewN ?_ _ | refine blk_drew ?_ | refine blk_alloc ?_ _)); exact BK117.out)) : gb118 ≠ gb117)); clear BK117; clear HB; have BK117 := n0_; have HB := n1_; have BK118 := n2_; have GW118 := n3_; have GE118 := n4_; have NB117_118 := n5_; have NB118_117 := n6_; clear n0_ n1_ n2_ n3_ n4_ n5_ n6_; clear hb hbox hg; have hnb12 := NB117_118.out; have hnc12 := NB118_117.out; have hcz13_0 : w11.cell? ⟨gb117, 0, none⟩ = some (.bool a0_0) := (blk_cell BK117.out 0).trans rfl; have hcz13_1 : w11.cell? ⟨gb117, 1, none⟩ = some (.slice A0_1 l0_1.length c0_1) := (blk_cell BK117.out 1).trans rfl; have hfz13_0 := blk_frozen BK117.out 0; have hfz13_1 := blk_frozen BK117.out 1; have hcz14_0 : w11.cell? ⟨gb118, 0, none⟩ = some (.bool a1_0) := (blk_cell BK118.out 0).trans rfl; have hcz14_1 : w11.cell? ⟨gb118, 1, none⟩ = some (.slice A1_1 l1_1.length c1_1) := (blk_cell BK118.out 1).trans rfl; have hfz14_0 := blk_frozen BK118.out 0; have hfz14_1 := blk_frozen BK118.out 1))
    go_ret
    exact ⟨by first | rfl | (simp [errW_none, errW_some] <;> rfl) | (simp [*, errW_none, errW_some] <;> rfl), by repeat (first | (with_reducible first | exact HB.out | apply below_alloc | apply pw_below_drewN | apply below_drew1 | refine below_set ?_ GE117.out | refine below_set ?_ GE118.out) | exact HB.out)⟩
def purlieuref13_One.f (k : Nat) (a0_0 : Int) (a0_1 : Int) (a0_2 : Bool) (l0_3 : List Int) (a0_4 : Int) (a1_0 : Int) (a1_1 : Int) (a1_2 : Bool) (l1_3 : List Int) (a1_4 : Int) : Option (Bool) := if a0_0 = a1_0 then (if a0_1 = a1_1 then (if a0_4 = a1_4 then ((purlieuref02_Same.f k a0_2 l0_3 a1_2 l1_3).bind fun t122 => (some t122)) else (some false)) else (some false)) else (some false)
set_option maxHeartbeats 8000000 in
set_option maxRecDepth 100000 in
theorem purlieuref13_One.calls (k : Nat) (a0_0 : Int) (a0_1 : Int) (a0_2 : Bool) (A0_3 : Option Addr) (c0_3 : Nat) (l0_3 : List Int) (a0_4 : Int) (a1_0 : Int) (a1_1 : Int) (a1_2 : Bool) (A1_3 : Option Addr) (c1_3 : Nat) (l1_3 : List Int) (a1_4 : Int) (r : Bool) (w : World) (hr0_3 : Kd.C (Kd.int .i64) w A0_3 l0_3.length l0_3) (hc0_3 : l0_3.length ≤ c0_3) (hr1_3 : Kd.C (Kd.int .i64) w A1_3 l1_3.length l1_3) (hc1_3 : l1_3.length ≤ c1_3) (h : purlieuref13_One.f k a0_0 a0_1 a0_2 l0_3 a0_4 a1_0 a1_1 a1_2 l1_3 a1_4 = some r) :
    Calls Try.prog 18 #[.agg #[.int .i64 a0_0, .int .u32 a0_1, .bool a0_2, .slice A0_3 l0_3.length c0_3, .int .i64 a0_4], .agg #[.int .i64 a1_0, .int .u32 a1_1, .bool a1_2, .slice A1_3 l1_3.length c1_3, .int .i64 a1_4]] w fun e w' => e = .returned (.bool r) ∧ Below w.heap.size w w' := by
  have hu28 := Try.underlying28
  have hu26 := Try.underlying26
  have HR0_3 := Aside0.mk hr0_3
  have HC0_3 := Aside0.mk hc0_3
  clear hr0_3 hc0_3
  have HR1_3 := Aside0.mk hr1_3
  have HC1_3 := Aside0.mk hc1_3
  clear hr1_3 hc1_3
  have HB := Aside0.mk (Below.refl w.heap.size w)
  have H : (if a0_0 = a1_0 then (if a0_1 = a1_1 then (if a0_4 = a1_4 then ((purlieuref02_Same.f k a0_2 l0_3 a1_2 l1_3).bind fun t122 => (some t122)) else (some false)) else (some false)) else (some false)) = some r := h
  clear h
  by_cases c3 : a0_0 = a1_0
  · rw [if_pos c3] at H
    have c3b0 : (a0_0 == a1_0) = true := beq_iff_eq.mpr c3
    have c3b1 : (a0_0 != a1_0) = false := bne_eq_false_iff_eq.mpr c3
    clear c3
    by_cases c4 : a0_1 = a1_1
    · rw [if_pos c4] at H
      have c4b0 : (a0_1 == a1_1) = true := beq_iff_eq.mpr c4
      have c4b1 : (a0_1 != a1_1) = false := bne_eq_false_iff_eq.mpr c4
      clear c4
      by_cases c5 : a0_4 = a1_4
      · rw [if_pos c5] at H
        have c5b0 : (a0_4 == a1_4) = true := beq_iff_eq.mpr c5
        have c5b1 : (a0_4 != a1_4) = false := bne_eq_false_iff_eq.mpr c5
        clear c5
        replace H := Option.bind_eq_some_iff.mp H
        obtain ⟨t122, A60, H⟩ := H
        replace H : (some t122) = some r := H
        have A6 := Aside0.mk A60
        clear A60
        obtain rfl := Option.some.inj H
        go_enter Try.func18, Try.ntmps18
        go_wp2_with (first | ((with_reducible refine gate_dst (N := 2) rfl ?_); refine box_event ?hg (N := 2) ?hd (cs := #[.int .i64 a0_0, .int .u32 a0_1, .bool a0_2, .slice A0_3 l0_3.length c0_3, .int .i64 a0_4]) (t := 28) ?hr ?_; (case hd => rfl); (case hg => rfl); (case hr => first | (go_simp; done) | (go_simp; rfl)); intro gb120 hg w7 hbox hb; have n0_ := Aside0.mk (below_step (by repeat (first | (with_reducible first | exact HB.out | apply below_alloc | apply pw_below_drewN | apply below_drew1) | exact HB.out)) hb); have n1_ := Aside0.mk (hbox); have n2_ := Aside0.mk ((by rw [hg]; exact (below_size (by repeat (first | (with_reducible first | exact HB.out | apply below_alloc | apply pw_below_drewN | apply below_drew1) | exact HB.out))) : w.heap.size ≤ gb120)); have n3_ := Aside0.mk ((by rw [hg]; exact (below_size (by repeat (first | (with_reducible first | exact HB.out | apply below_alloc | apply pw_below_drewN | apply below_drew1) | exact HB.out))) : w.heap.size ≤ gb120)); clear HB; have HB := n0_; have BK120 := n1_; have GW120 := n2_; have GE120 := n3_; clear n0_ n1_ n2_ n3_; clear hb hbox hg) | ((with_reducible refine gate_dst (N := 3) rfl ?_); refine box_event ?hg (N := 3) ?hd (cs := #[.int .i64 a1_0, .int .u32 a1_1, .bool a1_2, .slice A1_3 l1_3.length c1_3, .int .i64 a1_4]) (t := 28) ?hr ?_; (case hd => rfl); (case hg => rfl); (case hr => first | (go_simp; done) | (go_simp; rfl)); intro gb121 hg w8 hbox hb; have n0_ := Aside0.mk (blk_below (g := gb120) (o := .cells #[.int .i64 a0_0, .int .u32 a0_1, .bool a0_2, .slice A0_3 l0_3.length c0_3, .int .i64 a0_4] 28 (0, 0)) (by (with_reducible repeat (first | refine blk_drewN ?_ _ | refine blk_drew ?_ | refine blk_alloc ?_ _)); exact BK120.out) hb); have n1_ := Aside0.mk (below_step (by repeat (first | (with_reducible first | exact HB.out | apply below_alloc | apply pw_below_drewN | apply below_drew1 | refine below_set ?_ GE120.out) | exact HB.out)) hb); have n2_ := Aside0.mk (hbox); have n3_ := Aside0.mk ((by rw [hg]; exact (below_size (by repeat (first | (with_reducible first | exact HB.out | apply below_alloc | apply pw_below_drewN | apply below_drew1 | refine below_set ?_ GE120.out) | exact HB.out))) : w.heap.size ≤ gb121)); have n4_ := Aside0.mk ((by rw [hg]; exact (below_size (by repeat (first | (with_reducible first | exact HB.out | apply below_alloc | apply pw_below_drewN | apply below_drew1 | refine below_set ?_ GE120.out) | exact HB.out))) : w.heap.size ≤ gb121)); have n5_ := Aside0.mk ((by rw [hg]; exact Nat.ne_of_lt (blk_lt (g := gb120) (o := .cells #[.int .i64 a0_0, .int .u32 a0_1, .bool a0_2, .slice A0_3 l0_3.length c0_3, .int .i64 a0_4] 28 (0, 0)) (by (with_reducible repeat (first | refine blk_drewN ?_ _ | refine blk_drew ?_ | refine blk_alloc ?_ _)); exact BK120.out)) : gb120 ≠ gb121)); have n6_ := Aside0.mk ((by rw [hg]; exact Nat.ne_of_gt (blk_lt (g := gb120) (o := .cells #[.int .i64 a0_0, .int .u32 a0_1, .bool a0_2, .slice A0_3 l0_3.length c0_3, .int .i64 a0_4] 28 (0, 0)) (by (with_reducible repeat (first | refine blk_drewN ?_ _ | refine blk_drew ?_ | refine blk_alloc ?_ _)); exact BK120.out)) : gb121 ≠ gb120)); clear BK120; clear HB; have BK120 := n0_; have HB := n1_; have BK121 := n2_; have GW121 := n3_; have GE121 := n4_; have NB120_121 := n5_; have NB121_120 := n6_; clear n0_ n1_ n2_ n3_ n4_ n5_ n6_; clear hb hbox hg; have hnb9 := NB120_121.out; have hnc9 := NB121_120.out; have hcz10_0 : w8.cell? ⟨gb120, 0, none⟩ = some (.int .i64 a0_0) := (blk_cell BK120.out 0).trans rfl; have hcz10_1 : w8.cell? ⟨gb120, 1, none⟩ = some (.int .u32 a0_1) := (blk_cell BK120.out 1).trans rfl; have hcz10_2 : w8.cell? ⟨gb120, 2, none⟩ = some (.bool a0_2) := (blk_cell BK120.out 2).trans rfl; have hcz10_3 : w8.cell? ⟨gb120, 3, none⟩ = some (.slice A0_3 l0_3.length c0_3) := (blk_cell BK120.out 3).trans rfl; have hcz10_4 : w8.cell? ⟨gb120, 4, none⟩ = some (.int .i64 a0_4) := (blk_cell BK120.out 4).trans rfl; have hfz10_0 := blk_frozen BK120.out 0; have hfz10_1 := blk_frozen BK120.out 1; have hfz10_2 := blk_frozen BK120.out 2; have hfz10_3 := blk_frozen BK120.out 3; have hfz10_4 := blk_frozen BK120.out 4; have hcz11_0 : w8.cell? ⟨gb121, 0, none⟩ = some (.int .i64 a1_0) := (blk_cell BK121.out 0).trans rfl; have hcz11_1 : w8.cell? ⟨gb121, 1, none⟩ = some (.int .u32 a1_1) := (blk_cell BK121.out 1).trans rfl; have hcz11_2 : w8.cell? ⟨gb121, 2, none⟩ = some (.bool a1_2) := (blk_cell BK121.out 2).trans rfl; have hcz11_3 : w8.cell? ⟨gb121, 3, none⟩ = some (.slice A1_3 l1_3.length c1_3) := (blk_cell BK121.out 3).trans rfl; have hcz11_4 : w8.cell? ⟨gb121, 4, none⟩ = some (.int .i64 a1_4) := (blk_cell BK121.out 4).trans rfl; have hfz11_0 := blk_frozen BK121.out 0; have hfz11_1 := blk_frozen BK121.out 1; have hfz11_2 := blk_frozen BK121.out 2; have hfz11_3 := blk_frozen BK121.out 3; have hfz11_4 := blk_frozen BK121.out 4) | (go_at_call 43; (with_reducible refine (purlieuref02_Same.calls k a0_2 _ _ l0_3 a1_2 _ _ l1_3 t122 _ ?side1 ?side2 ?side3 ?side4 A6.out).mono ?_); (case side1 => repeat (first | exact (Kd.C_below HR0_3.out HB.out) | (with_reducible refine Kd.C_alloc ?_ _) | (with_reducible refine Kd.C_drewN ?_ _) | (with_reducible refine Kd.C_drew ?_))); (case side2 => exact HC0_3.out); (case side3 => repeat (first | exact (Kd.C_below HR1_3.out HB.out) | (with_reducible refine Kd.C_alloc ?_ _) | (with_reducible refine Kd.C_drewN ?_ _) | (with_reducible refine Kd.C_drew ?_))); (case side4 => exact HC1_3.out); rintro e w12 ⟨rfl, hb⟩; have n0_ := Aside0.mk (blk_below (g := gb120) (o := .cells #[.int .i64 a0_0, .int .u32 a0_1, .bool a0_2, .slice A0_3 l0_3.length c0_3, .int .i64 a0_4] 28 (0, 0)) (by (with_reducible repeat (first | refine blk_drewN ?_ _ | refine blk_drew ?_ | refine blk_alloc ?_ _)); exact BK120.out) hb); have n1_ := Aside0.mk (blk_below (g := gb121) (o := .cells #[.int .i64 a1_0, .int .u32 a1_1, .bool a1_2, .slice A1_3 l1_3.length c1_3, .int .i64 a1_4] 28 (0, 0)) (by (with_reducible repeat (first | refine blk_drewN ?_ _ | refine blk_drew ?_ | refine blk_alloc ?_ _)); exact BK121.out) hb); have n2_ := Aside0.mk (below_step (by repeat (first | (with_reducible first | exact HB.out | apply below_alloc | apply pw_below_drewN | apply below_drew1 | refine below_set ?_ GE120.out | refine below_set ?_ GE121.out) | exact HB.out)) hb); clear BK120; clear BK121; clear HB; have BK120 := n0_; have BK121 := n1_; have HB := n2_; clear n0_ n1_ n2_; (try clear hb); (try clear hb2); (try clear hk); (try clear hi)))
        go_ret
        exact ⟨by first | rfl | (simp [errW_none, errW_some] <;> rfl) | (simp [*, errW_none, errW_some] <;> rfl), by repeat (first | (with_reducible first | exact HB.out | apply below_alloc | apply pw_below_drewN | apply below_drew1 | refine below_set ?_ GE120.out | refine below_set ?_ GE121.out) | exact HB.out)⟩
      · rw [if_neg c5] at H
        have c5b0 : (a0_4 == a1_4) = false := beq_eq_false_iff_ne.mpr c5
        have c5b1 : (a0_4 != a1_4) = true := bne_iff_ne.mpr c5
        obtain rfl := Option.some.inj H
        go_enter Try.func18, Try.ntmps18
        go_wp2_with (first | ((with_reducible refine gate_dst (N := 2) rfl ?_); refine box_event ?hg (N := 2) ?hd (cs := #[.int .i64 a0_0, .int .u32 a0_1, .bool a0_2, .slice A0_3 l0_3.length c0_3, .int .i64 a0_4]) (t := 28) ?hr ?_; (case hd => rfl); (case hg => rfl); (case hr => first | (go_simp; done) | (go_simp; rfl)); intro gb120 hg w13 hbox hb; have n0_ := Aside0.mk (below_step (by repeat (first | (with_reducible first | exact HB.out | apply below_alloc | apply pw_below_drewN | apply below_drew1) | exact HB.out)) hb); have n1_ := Aside0.mk (hbox); have n2_ := Aside0.mk ((by rw [hg]; exact (below_size (by repeat (first | (with_reducible first | exact HB.out | apply below_alloc | apply pw_below_drewN | apply below_drew1) | exact HB.out))) : w.heap.size ≤ gb120)); have n3_ := Aside0.mk ((by rw [hg]; exact (below_size (by repeat (first | (with_reducible first | exact HB.out | apply below_alloc | apply pw_below_drewN | apply below_drew1) | exact HB.out))) : w.heap.size ≤ gb120)); clear HB; have HB := n0_; have BK120 := n1_; have GW120 := n2_; have GE120 := n3_; clear n0_ n1_ n2_ n3_; clear hb hbox hg) | ((with_reducible refine gate_dst (N := 3) rfl ?_); refine box_event ?hg (N := 3) ?hd (cs := #[.int .i64 a1_0, .int .u32 a1_1, .bool a1_2, .slice A1_3 l1_3.length c1_3, .int .i64 a1_4]) (t := 28) ?hr ?_; (case hd => rfl); (case hg => rfl); (case hr => first | (go_simp; done) | (go_simp; rfl)); intro gb121 hg w14 hbox hb; have n0_ := Aside0.mk (blk_below (g := gb120) (o := .cells #[.int .i64 a0_0, .int .u32 a0_1, .bool a0_2, .slice A0_3 l0_3.length c0_3, .int .i64 a0_4] 28 (0, 0)) (by (with_reducible repeat (first | refine blk_drewN ?_ _ | refine blk_drew ?_ | refine blk_alloc ?_ _)); exact BK120.out) hb); have n1_ := Aside0.mk (below_step (by repeat (first | (with_reducible first | exact HB.out | apply below_alloc | apply pw_below_drewN | apply below_drew1 | refine below_set ?_ GE120.out) | exact HB.out)) hb); have n2_ := Aside0.mk (hbox); have n3_ := Aside0.mk ((by rw [hg]; exact (below_size (by repeat (first | (with_reducible first | exact HB.out | apply below_alloc | apply pw_below_drewN | apply below_drew1 | refine below_set ?_ GE120.out) | exact HB.out))) : w.heap.size ≤ gb121)); have n4_ := Aside0.mk ((by rw [hg]; exact (below_size (by repeat (first | (with_reducible first | exact HB.out | apply below_alloc | apply pw_below_drewN | apply below_drew1 | refine below_set ?_ GE120.out) | exact HB.out))) : w.heap.size ≤ gb121)); have n5_ := Aside0.mk ((by rw [hg]; exact Nat.ne_of_lt (blk_lt (g := gb120) (o := .cells #[.int .i64 a0_0, .int .u32 a0_1, .bool a0_2, .slice A0_3 l0_3.length c0_3, .int .i64 a0_4] 28 (0, 0)) (by (with_reducible repeat (first | refine blk_drewN ?_ _ | refine blk_drew ?_ | refine blk_alloc ?_ _)); exact BK120.out)) : gb120 ≠ gb121)); have n6_ := Aside0.mk ((by rw [hg]; exact Nat.ne_of_gt (blk_lt (g := gb120) (o := .cells #[.int .i64 a0_0, .int .u32 a0_1, .bool a0_2, .slice A0_3 l0_3.length c0_3, .int .i64 a0_4] 28 (0, 0)) (by (with_reducible repeat (first | refine blk_drewN ?_ _ | refine blk_drew ?_ | refine blk_alloc ?_ _)); exact BK120.out)) : gb121 ≠ gb120)); clear BK120; clear HB; have BK120 := n0_; have HB := n1_; have BK121 := n2_; have GW121 := n3_; have GE121 := n4_; have NB120_121 := n5_; have NB121_120 := n6_; clear n0_ n1_ n2_ n3_ n4_ n5_ n6_; clear hb hbox hg; have hnb15 := NB120_121.out; have hnc15 := NB121_120.out; have hcz16_0 : w14.cell? ⟨gb120, 0, none⟩ = some (.int .i64 a0_0) := (blk_cell BK120.out 0).trans rfl; have hcz16_1 : w14.cell? ⟨gb120, 1, none⟩ = some (.int .u32 a0_1) := (blk_cell BK120.out 1).trans rfl; have hcz16_2 : w14.cell? ⟨gb120, 2, none⟩ = some (.bool a0_2) := (blk_cell BK120.out 2).trans rfl; have hcz16_3 : w14.cell? ⟨gb120, 3, none⟩ = some (.slice A0_3 l0_3.length c0_3) := (blk_cell BK120.out 3).trans rfl; have hcz16_4 : w14.cell? ⟨gb120, 4, none⟩ = some (.int .i64 a0_4) := (blk_cell BK120.out 4).trans rfl; have hfz16_0 := blk_frozen BK120.out 0; have hfz16_1 := blk_frozen BK120.out 1; have hfz16_2 := blk_frozen BK120.out 2; have hfz16_3 := blk_frozen BK120.out 3; have hfz16_4 := blk_frozen BK120.out 4; have hcz17_0 : w14.cell? ⟨gb121, 0, none⟩ = some (.int .i64 a1_0) := (blk_cell BK121.out 0).trans rfl; have hcz17_1 : w14.cell? ⟨gb121, 1, none⟩ = some (.int .u32 a1_1) := (blk_cell BK121.out 1).trans rfl; have hcz17_2 : w14.cell? ⟨gb121, 2, none⟩ = some (.bool a1_2) := (blk_cell BK121.out 2).trans rfl; have hcz17_3 : w14.cell? ⟨gb121, 3, none⟩ = some (.slice A1_3 l1_3.length c1_3) := (blk_cell BK121.out 3).trans rfl; have hcz17_4 : w14.cell? ⟨gb121, 4, none⟩ = some (.int .i64 a1_4) := (blk_cell BK121.out 4).trans rfl; have hfz17_0 := blk_frozen BK121.out 0; have hfz17_1 := blk_frozen BK121.out 1; have hfz17_2 := blk_frozen BK121.out 2; have hfz17_3 := blk_frozen BK121.out 3; have hfz17_4 := blk_frozen BK121.out 4))
        go_ret
        exact ⟨by first | rfl | (simp [errW_none, errW_some] <;> rfl) | (simp [*, errW_none, errW_some] <;> rfl), by repeat (first | (with_reducible first | exact HB.out | apply below_alloc | apply pw_below_drewN | apply below_drew1 | refine below_set ?_ GE120.out | refine below_set ?_ GE121.out) | exact HB.out)⟩
    · rw [if_neg c4] at H
      have c4b0 : (a0_1 == a1_1) = false := beq_eq_false_iff_ne.mpr c4
      have c4b1 : (a0_1 != a1_1) = true := bne_iff_ne.mpr c4
      obtain rfl := Option.some.inj H
      go_enter Try.func18, Try.ntmps18
      go_wp2_with (first | ((with_reducible refine gate_dst (N := 2) rfl ?_); refine box_event ?hg (N := 2) ?hd (cs := #[.int .i64 a0_0, .int .u32 a0_1, .bool a0_2, .slice A0_3 l0_3.length c0_3, .int .i64 a0_4]) (t := 28) ?hr ?_; (case hd => rfl); (case hg => rfl); (case hr => first | (go_simp; done) | (go_simp; rfl)); intro gb120 hg w18 hbox hb; have n0_ := Aside0.mk (below_step (by repeat (first | (with_reducible first | exact HB.out | apply below_alloc | apply pw_below_drewN | apply below_drew1) | exact HB.out)) hb); have n1_ := Aside0.mk (hbox); have n2_ := Aside0.mk ((by rw [hg]; exact (below_size (by repeat (first | (with_reducible first | exact HB.out | apply below_alloc | apply pw_below_drewN | apply below_drew1) | exact HB.out))) : w.heap.size ≤ gb120)); have n3_ := Aside0.mk ((by rw [hg]; exact (below_size (by repeat (first | (with_reducible first | exact HB.out | apply below_alloc | apply pw_below_drewN | apply below_drew1) | exact HB.out))) : w.heap.size ≤ gb120)); clear HB; have HB := n0_; have BK120 := n1_; have GW120 := n2_; have GE120 := n3_; clear n0_ n1_ n2_ n3_; clear hb hbox hg) | ((with_reducible refine gate_dst (N := 3) rfl ?_); refine box_event ?hg (N := 3) ?hd (cs := #[.int .i64 a1_0, .int .u32 a1_1, .bool a1_2, .slice A1_3 l1_3.length c1_3, .int .i64 a1_4]) (t := 28) ?hr ?_; (case hd => rfl); (case hg => rfl); (case hr => first | (go_simp; done) | (go_simp; rfl)); intro gb121 hg w19 hbox hb; have n0_ := Aside0.mk (blk_below (g := gb120) (o := .cells #[.int .i64 a0_0, .int .u32 a0_1, .bool a0_2, .slice A0_3 l0_3.length c0_3, .int .i64 a0_4] 28 (0, 0)) (by (with_reducible repeat (first | refine blk_drewN ?_ _ | refine blk_drew ?_ | refine blk_alloc ?_ _)); exact BK120.out) hb); have n1_ := Aside0.mk (below_step (by repeat (first | (with_reducible first | exact HB.out | apply below_alloc | apply pw_below_drewN | apply below_drew1 | refine below_set ?_ GE120.out) | exact HB.out)) hb); have n2_ := Aside0.mk (hbox); have n3_ := Aside0.mk ((by rw [hg]; exact (below_size (by repeat (first | (with_reducible first | exact HB.out | apply below_alloc | apply pw_below_drewN | apply below_drew1 | refine below_set ?_ GE120.out) | exact HB.out))) : w.heap.size ≤ gb121)); have n4_ := Aside0.mk ((by rw [hg]; exact (below_size (by repeat (first | (with_reducible first | exact HB.out | apply below_alloc | apply pw_below_drewN | apply below_drew1 | refine below_set ?_ GE120.out) | exact HB.out))) : w.heap.size ≤ gb121)); have n5_ := Aside0.mk ((by rw [hg]; exact Nat.ne_of_lt (blk_lt (g := gb120) (o := .cells #[.int .i64 a0_0, .int .u32 a0_1, .bool a0_2, .slice A0_3 l0_3.length c0_3, .int .i64 a0_4] 28 (0, 0)) (by (with_reducible repeat (first | refine blk_drewN ?_ _ | refine blk_drew ?_ | refine blk_alloc ?_ _)); exact BK120.out)) : gb120 ≠ gb121)); have n6_ := Aside0.mk ((by rw [hg]; exact Nat.ne_of_gt (blk_lt (g := gb120) (o := .cells #[.int .i64 a0_0, .int .u32 a0_1, .bool a0_2, .slice A0_3 l0_3.length c0_3, .int .i64 a0_4] 28 (0, 0)) (by (with_reducible repeat (first | refine blk_drewN ?_ _ | refine blk_drew ?_ | refine blk_alloc ?_ _)); exact BK120.out)) : gb121 ≠ gb120)); clear BK120; clear HB; have BK120 := n0_; have HB := n1_; have BK121 := n2_; have GW121 := n3_; have GE121 := n4_; have NB120_121 := n5_; have NB121_120 := n6_; clear n0_ n1_ n2_ n3_ n4_ n5_ n6_; clear hb hbox hg; have hnb20 := NB120_121.out; have hnc20 := NB121_120.out; have hcz21_0 : w19.cell? ⟨gb120, 0, none⟩ = some (.int .i64 a0_0) := (blk_cell BK120.out 0).trans rfl; have hcz21_1 : w19.cell? ⟨gb120, 1, none⟩ = some (.int .u32 a0_1) := (blk_cell BK120.out 1).trans rfl; have hcz21_2 : w19.cell? ⟨gb120, 2, none⟩ = some (.bool a0_2) := (blk_cell BK120.out 2).trans rfl; have hcz21_3 : w19.cell? ⟨gb120, 3, none⟩ = some (.slice A0_3 l0_3.length c0_3) := (blk_cell BK120.out 3).trans rfl; have hcz21_4 : w19.cell? ⟨gb120, 4, none⟩ = some (.int .i64 a0_4) := (blk_cell BK120.out 4).trans rfl; have hfz21_0 := blk_frozen BK120.out 0; have hfz21_1 := blk_frozen BK120.out 1; have hfz21_2 := blk_frozen BK120.out 2; have hfz21_3 := blk_frozen BK120.out 3; have hfz21_4 := blk_frozen BK120.out 4; have hcz22_0 : w19.cell? ⟨gb121, 0, none⟩ = some (.int .i64 a1_0) := (blk_cell BK121.out 0).trans rfl; have hcz22_1 : w19.cell? ⟨gb121, 1, none⟩ = some (.int .u32 a1_1) := (blk_cell BK121.out 1).trans rfl; have hcz22_2 : w19.cell? ⟨gb121, 2, none⟩ = some (.bool a1_2) := (blk_cell BK121.out 2).trans rfl; have hcz22_3 : w19.cell? ⟨gb121, 3, none⟩ = some (.slice A1_3 l1_3.length c1_3) := (blk_cell BK121.out 3).trans rfl; have hcz22_4 : w19.cell? ⟨gb121, 4, none⟩ = some (.int .i64 a1_4) := (blk_cell BK121.out 4).trans rfl; have hfz22_0 := blk_frozen BK121.out 0; have hfz22_1 := blk_frozen BK121.out 1; have hfz22_2 := blk_frozen BK121.out 2; have hfz22_3 := blk_frozen BK121.out 3; have hfz22_4 := blk_frozen BK121.out 4))
      go_ret
      exact ⟨by first | rfl | (simp [errW_none, errW_some] <;> rfl) | (simp [*, errW_none, errW_some] <;> rfl), by repeat (first | (with_reducible first | exact HB.out | apply below_alloc | apply pw_below_drewN | apply below_drew1 | refine below_set ?_ GE120.out | refine below_set ?_ GE121.out) | exact HB.out)⟩
  · rw [if_neg c3] at H
    have c3b0 : (a0_0 == a1_0) = false := beq_eq_false_iff_ne.mpr c3
    have c3b1 : (a0_0 != a1_0) = true := bne_iff_ne.mpr c3
    obtain rfl := Option.some.inj H
    go_enter Try.func18, Try.ntmps18
    go_wp2_with (first | ((with_reducible refine gate_dst (N := 2) rfl ?_); refine box_event ?hg (N := 2) ?hd (cs := #[.int .i64 a0_0, .int .u32 a0_1, .bool a0_2, .slice A0_3 l0_3.length c0_3, .int .i64 a0_4]) (t := 28) ?hr ?_; (case hd => rfl); (case hg => rfl); (case hr => first | (go_simp; done) | (go_simp; rfl)); intro gb120 hg w23 hbox hb; have n0_ := Aside0.mk (below_step (by repeat (first | (with_reducible first | exact HB.out | apply below_alloc | apply pw_below_drewN | apply below_drew1) | exact HB.out)) hb); have n1_ := Aside0.mk (hbox); have n2_ := Aside0.mk ((by rw [hg]; exact (below_size (by repeat (first | (with_reducible first | exact HB.out | apply below_alloc | apply pw_below_drewN | apply below_drew1) | exact HB.out))) : w.heap.size ≤ gb120)); have n3_ := Aside0.mk ((by rw [hg]; exact (below_size (by repeat (first | (with_reducible first | exact HB.out | apply below_alloc | apply pw_below_drewN | apply below_drew1) | exact HB.out))) : w.heap.size ≤ gb120)); clear HB; have HB := n0_; have BK120 := n1_; have GW120 := n2_; have GE120 := n3_; clear n0_ n1_ n2_ n3_; clear hb hbox hg) | ((with_reducible refine gate_dst (N := 3) rfl ?_); refine box_event ?hg (N := 3) ?hd (cs := #[.int .i64 a1_0, .int .u32 a1_1, .bool a1_2, .slice A1_3 l1_3.length c1_3, .int .i64 a1_4]) (t := 28) ?hr ?_; (case hd => rfl); (case hg => rfl); (case hr => first | (go_simp; done) | (go_simp; rfl)); intro gb121 hg w24 hbox hb; have n0_ := Aside0.mk (blk_below (g := gb120) (o := .cells #[.int .i64 a0_0, .int .u32 a0_1, .bool a0_2, .slice A0_3 l0_3.length c0_3, .int .i64 a0_4] 28 (0, 0)) (by (with_reducible repeat (first | refine blk_drewN ?_ _ | refine blk_drew ?_ | refine blk_alloc ?_ _)); exact BK120.out) hb); have n1_ := Aside0.mk (below_step (by repeat (first | (with_reducible first | exact HB.out | apply below_alloc | apply pw_below_drewN | apply below_drew1 | refine below_set ?_ GE120.out) | exact HB.out)) hb); have n2_ := Aside0.mk (hbox); have n3_ := Aside0.mk ((by rw [hg]; exact (below_size (by repeat (first | (with_reducible first | exact HB.out | apply below_alloc | apply pw_below_drewN | apply below_drew1 | refine below_set ?_ GE120.out) | exact HB.out))) : w.heap.size ≤ gb121)); have n4_ := Aside0.mk ((by rw [hg]; exact (below_size (by repeat (first | (with_reducible first | exact HB.out | apply below_alloc | apply pw_below_drewN | apply below_drew1 | refine below_set ?_ GE120.out) | exact HB.out))) : w.heap.size ≤ gb121)); have n5_ := Aside0.mk ((by rw [hg]; exact Nat.ne_of_lt (blk_lt (g := gb120) (o := .cells #[.int .i64 a0_0, .int .u32 a0_1, .bool a0_2, .slice A0_3 l0_3.length c0_3, .int .i64 a0_4] 28 (0, 0)) (by (with_reducible repeat (first | refine blk_drewN ?_ _ | refine blk_drew ?_ | refine blk_alloc ?_ _)); exact BK120.out)) : gb120 ≠ gb121)); have n6_ := Aside0.mk ((by rw [hg]; exact Nat.ne_of_gt (blk_lt (g := gb120) (o := .cells #[.int .i64 a0_0, .int .u32 a0_1, .bool a0_2, .slice A0_3 l0_3.length c0_3, .int .i64 a0_4] 28 (0, 0)) (by (with_reducible repeat (first | refine blk_drewN ?_ _ | refine blk_drew ?_ | refine blk_alloc ?_ _)); exact BK120.out)) : gb121 ≠ gb120)); clear BK120; clear HB; have BK120 := n0_; have HB := n1_; have BK121 := n2_; have GW121 := n3_; have GE121 := n4_; have NB120_121 := n5_; have NB121_120 := n6_; clear n0_ n1_ n2_ n3_ n4_ n5_ n6_; clear hb hbox hg; have hnb25 := NB120_121.out; have hnc25 := NB121_120.out; have hcz26_0 : w24.cell? ⟨gb120, 0, none⟩ = some (.int .i64 a0_0) := (blk_cell BK120.out 0).trans rfl; have hcz26_1 : w24.cell? ⟨gb120, 1, none⟩ = some (.int .u32 a0_1) := (blk_cell BK120.out 1).trans rfl; have hcz26_2 : w24.cell? ⟨gb120, 2, none⟩ = some (.bool a0_2) := (blk_cell BK120.out 2).trans rfl; have hcz26_3 : w24.cell? ⟨gb120, 3, none⟩ = some (.slice A0_3 l0_3.length c0_3) := (blk_cell BK120.out 3).trans rfl; have hcz26_4 : w24.cell? ⟨gb120, 4, none⟩ = some (.int .i64 a0_4) := (blk_cell BK120.out 4).trans rfl; have hfz26_0 := blk_frozen BK120.out 0; have hfz26_1 := blk_frozen BK120.out 1; have hfz26_2 := blk_frozen BK120.out 2; have hfz26_3 := blk_frozen BK120.out 3; have hfz26_4 := blk_frozen BK120.out 4; have hcz27_0 : w24.cell? ⟨gb121, 0, none⟩ = some (.int .i64 a1_0) := (blk_cell BK121.out 0).trans rfl; have hcz27_1 : w24.cell? ⟨gb121, 1, none⟩ = some (.int .u32 a1_1) := (blk_cell BK121.out 1).trans rfl; have hcz27_2 : w24.cell? ⟨gb121, 2, none⟩ = some (.bool a1_2) := (blk_cell BK121.out 2).trans rfl; have hcz27_3 : w24.cell? ⟨gb121, 3, none⟩ = some (.slice A1_3 l1_3.length c1_3) := (blk_cell BK121.out 3).trans rfl; have hcz27_4 : w24.cell? ⟨gb121, 4, none⟩ = some (.int .i64 a1_4) := (blk_cell BK121.out 4).trans rfl; have hfz27_0 := blk_frozen BK121.out 0; have hfz27_1 := blk_frozen BK121.out 1; have hfz27_2 := blk_frozen BK121.out 2; have hfz27_3 := blk_frozen BK121.out 3; have hfz27_4 := blk_frozen BK121.out 4))
    go_ret
    exact ⟨by first | rfl | (simp [errW_none, errW_some] <;> rfl) | (simp [*, errW_none, errW_some] <;> rfl), by repeat (first | (with_reducible first | exact HB.out | apply below_alloc | apply pw_below_drewN | apply below_drew1 | refine below_set ?_ GE120.out | refine below_set ?_ GE121.out) | exact HB.out)⟩
def purlieuref01_Has.f (a0 : Int) (a1 : Int) : Option (Bool) := if 0 ≤ (IntKind.u64.wrap (a1)) then (some ((Int.tmod (shr .u32 a0 (IntKind.u64.wrap (a1))) 2) == 1)) else (none)
set_option maxHeartbeats 8000000 in
set_option maxRecDepth 100000 in
theorem purlieuref01_Has.calls (a0 : Int) (a1 : Int) (r : Bool) (w : World) (h : purlieuref01_Has.f a0 a1 = some r) :
    Calls Try.prog 59 #[.int .u32 a0, .int .i64 a1] w fun e w' => e = .returned (.bool r) ∧ Drawn0 w w' := by
  have H : (if 0 ≤ (IntKind.u64.wrap (a1)) then (some ((Int.tmod (shr .u32 a0 (IntKind.u64.wrap (a1))) 2) == 1)) else (none)) = some r := h
  clear h
  obtain ⟨ji3, hji3⟩ : ∃ j_ : Int, (IntKind.u64.wrap (a1)) = j_ := ⟨_, rfl⟩
  replace H : (if 0 ≤ (ji3) then (some ((Int.tmod (shr .u32 a0 (ji3)) 2) == 1)) else (none)) = some r := by first | (rw [hji3] at H; exact H) | (simp only [hji3] at H ⊢; exact H)
  by_cases c4 : 0 ≤ (ji3)
  · rw [if_pos c4] at H
    have c4b0 := eq_true c4
    have c4b1 : decide (0 ≤ (ji3)) = true := decide_eq_true c4
    clear c4
    obtain ⟨ji5, hji5⟩ : ∃ j_ : Int, (shr .u32 a0 (ji3)) = j_ := ⟨_, rfl⟩
    replace H : (some ((Int.tmod (ji5) 2) == 1)) = some r := by first | (rw [hji5] at H; exact H) | (simp only [hji5] at H ⊢; exact H)
    have hji5_ : (a0 / 2 ^ min (ji3).toNat 32) = ji5 := hji5
    have hji5z : (ji3) ≤ 32 → (a0 / 2 ^ (ji3).toNat) = ji5 := shr_small hji5
    obtain rfl := Option.some.inj H
    go_enter Try.func59, Try.ntmps59
    go_wp2
    go_ret
    exact ⟨by first | rfl | (simp; done) | (simp only [← hji3, ← hji5] <;> (first | rfl | simp)) | (simp [*]; done), by repeat (first | exact Drawn0.refl _ | apply Drawn0.step)⟩
  · rw [if_neg c4] at H
    exact absurd H (by simp)
end Go.Proofs.Ytilfalpfanaanaa.PA

namespace Go.Proofs.Ytilfalpfanaanaa.PA
open Go.RowKit Go.Proofs.YtilfalpfanaanaaW.PrintWords Go.Proofs.YtilfalpfanaanaaW.PrintLast Go.Proofs.YtilfalpfanaanaaW.PrintMore
attribute [local go_sem] max2_int min2_int max_two min_two max_three min_three max_four min_four   -- for this text's walks alone
def purlieuref01_Subset.l0 : Nat → Int → Int → Int → Option (Bool)
  | 0, _, _, _ => none
  | k + 1, x0, x1, x5 => if x5 < 32 then ((purlieuref01_Has.f x0 x5).bind fun t123 => (if t123 = true then ((purlieuref01_Has.f x1 x5).bind fun t124 => (if t124 = true then (purlieuref01_Subset.l0 k x0 x1 (wrap64 (x5 + 1))) else (some false))) else (purlieuref01_Subset.l0 k x0 x1 (wrap64 (x5 + 1))))) else (some true)
def purlieuref01_Subset.f (k : Nat) (a0 : Int) (a1 : Int) : Option (Bool) := purlieuref01_Subset.l0 k a0 a1 0
set_option maxHeartbeats 8000000 in
set_option maxRecDepth 100000 in
theorem purlieuref01_Subset.calls (k : Nat) (a0 : Int) (a1 : Int) (r : Bool) (w : World) (h : purlieuref01_Subset.f k a0 a1 = some r) :
    Calls Try.prog 41 #[.int .u32 a0, .int .u32 a1] w fun e w' => e = .returned (.bool r) ∧ Drawn0 w w' := by
  have H : (purlieuref01_Subset.l0 k a0 a1 0) = some r := h
  clear h
  have H' := Aside0.mk H
  clear H
  go_enter Try.func41, Try.ntmps41
  go_wp2
  go_loopg [5] k (fun kq v5 w' => ∃ (x5_1 : Int), v5 = .int .i64 x5_1 ∧ Aside0 (purlieuref01_Subset.l0 kq a0 a1 x5_1 = some r) ∧ Aside0 (kq ≤ k) ∧ Drawn0 w w')
  case atStart => exact ⟨(0), (by first | rfl | (simp; done) | (simp [*]; done)), H', ⟨Nat.le_refl _⟩, by repeat (first | exact Drawn0.refl _ | apply Drawn0.step)⟩
  case round =>
    clear H'
    try clear p2
    obtain ⟨x5_1, rfl, HA, HK1, ⟨m1, rfl⟩⟩ := hrel
    cases gk with
    | zero => exact absurd HA.out (by simp [purlieuref01_Subset.l0])
    | succ k1 =>
      have H := HA.out
      clear HA
      simp only [purlieuref01_Subset.l0] at H
      by_cases c3 : x5_1 < 32
      · rw [if_pos c3] at H
        have c3b0 : decide (x5_1 < 32) = true := decide_eq_true c3
        clear c3
        replace H := Option.bind_eq_some_iff.mp H
        obtain ⟨t123, A40, H⟩ := H
        replace H : (if t123 = true then ((purlieuref01_Has.f a1 x5_1).bind fun t124 => (if t124 = true then (purlieuref01_Subset.l0 k1 a0 a1 (wrap64 (x5_1 + 1))) else (some false))) else (purlieuref01_Subset.l0 k1 a0 a1 (wrap64 (x5_1 + 1)))) = some r := H
        have A4 := Aside0.mk A40
        clear A40
        by_cases c5 : t123 = true
        · subst c5
          have H1 : ((purlieuref01_Has.f a1 x5_1).bind fun t124 => (if t124 = true then (purlieuref01_Subset.l0 k1 a0 a1 (wrap64 (x5_1 + 1))) else (some false))) = some r := by rw [if_pos rfl] at H; exact H
          clear H
          have H := H1
          clear H1
          replace H := Option.bind_eq_some_iff.mp H
          obtain ⟨t124, A60, H⟩ := H
          replace H : (if t124 = true then (purlieuref01_Subset.l0 k1 a0 a1 (wrap64 (x5_1 + 1))) else (some false)) = some r := H
          have A6 := Aside0.mk A60
          clear A60
          by_cases c7 : t124 = true
          · subst c7
            have H1 : (purlieuref01_Subset.l0 k1 a0 a1 (wrap64 (x5_1 + 1))) = some r := by rw [if_pos rfl] at H; exact H
            clear H
            have H := H1
            clear H1
            have H' := Aside0.mk H
            clear H
            go_wp2_with (first | ((with_reducible refine gate_callee (f := 59) rfl ?_); refine goesL_ (some 12) rfl rfl Try.func59 (by kernel_rfl) rfl #[.int .u32 a0, .int .i64 x5_1] rfl (by (try simp only [List.map_toArray, List.map_cons, List.map_nil]); first | done | rfl | (simp only [List.length_drop, List.length_take]; rfl)) ?_; (with_reducible refine (purlieuref01_Has.calls a0 x5_1 true _ A4.out).mono ?_); rintro e w' ⟨rfl, ⟨nd, rfl⟩⟩; refine ⟨_, rfl, ?_⟩) | (go_at_call 59; (with_reducible refine (purlieuref01_Has.calls a1 x5_1 true _ A6.out).mono ?_); rintro e w' ⟨rfl, ⟨nd, rfl⟩⟩))
            go_roundg k1
            case measure => have := HK1.out; omega
            case rel => exact ⟨(wrap64 (x5_1 + 1)), (by first | rfl | (simp; done) | (simp [*]; done)), H', ⟨by have := HK1.out; omega⟩, by repeat (first | exact Drawn0.refl _ | apply Drawn0.step)⟩
          · replace c7 := Bool.eq_false_iff.mpr c7
            subst c7
            have H1 : (some false) = some r := by rw [if_neg (show ¬ (false = true) by decide)] at H; exact H
            clear H
            have H := H1
            clear H1
            obtain rfl := Option.some.inj H
            go_wp2_with (first | ((with_reducible refine gate_callee (f := 59) rfl ?_); refine goesL_ (some 12) rfl rfl Try.func59 (by kernel_rfl) rfl #[.int .u32 a0, .int .i64 x5_1] rfl (by (try simp only [List.map_toArray, List.map_cons, List.map_nil]); first | done | rfl | (simp only [List.length_drop, List.length_take]; rfl)) ?_; (with_reducible refine (purlieuref01_Has.calls a0 x5_1 true _ A4.out).mono ?_); rintro e w' ⟨rfl, ⟨nd, rfl⟩⟩; refine ⟨_, rfl, ?_⟩) | (go_at_call 59; (with_reducible refine (purlieuref01_Has.calls a1 x5_1 false _ A6.out).mono ?_); rintro e w' ⟨rfl, ⟨nd, rfl⟩⟩))
            go_ret
            exact ⟨by first | rfl | (simp; done) | (simp [*]; done), by repeat (first | exact Drawn0.refl _ | apply Drawn0.step)⟩
        · replace c5 := Bool.eq_false_iff.mpr c5
          subst c5
          have H1 : (purlieuref01_Subset.l0 k1 a0 a1 (wrap64 (x5_1 + 1))) = some r := by rw [if_neg (show ¬ (false = true) by decide)] at H; exact H
          clear H
          have H := H1
          clear H1
          have H' := Aside0.mk H
          clear H
          go_wp2_with (first | ((with_reducible refine gate_callee (f := 59) rfl ?_); refine goesL_ (some 12) rfl rfl Try.func59 (by kernel_rfl) rfl #[.int .u32 a0, .int .i64 x5_1] rfl (by (try simp only [List.map_toArray, List.map_cons, List.map_nil]); first | done | rfl | (simp only [List.length_drop, List.length_take]; rfl)) ?_; (with_reducible refine (purlieuref01_Has.calls a0 x5_1 false _ A4.out).mono ?_); rintro e w' ⟨rfl, ⟨nd, rfl⟩⟩; refine ⟨_, rfl, ?_⟩))
          go_roundg k1
          case measure => have := HK1.out; omega
          case rel => exact ⟨(wrap64 (x5_1 + 1)), (by first | rfl | (simp; done) | (simp [*]; done)), H', ⟨by have := HK1.out; omega⟩, by repeat (first | exact Drawn0.refl _ | apply Drawn0.step)⟩
      · rw [if_neg c3] at H
        have c3b0 : decide (x5_1 < 32) = false := decide_eq_false c3
        clear c3
        obtain rfl := Option.some.inj H
        go_wp2
        go_ret
        exact ⟨by first | rfl | (simp; done) | (simp [*]; done), by repeat (first | exact Drawn0.refl _ | apply Drawn0.step)⟩
def purlieuref02_In.l0 : Nat → List Int → Int → Int → Option (Bool)
  | 0, _, _, _ => none
  | k + 1, x0, x1, x5 => if x5 < (x0.length : Int) then (if 0 ≤ x5 then (if (rd x0 x5) = x1 then (some true) else (purlieuref02_In.l0 k x0 x1 (wrap64 (x5 + 1)))) else (none)) else (some false)
def purlieuref02_In.f (k : Nat) (l0 : List Int) (a1 : Int) : Option (Bool) := purlieuref02_In.l0 k l0 a1 0
set_option maxHeartbeats 8000000 in
set_option maxRecDepth 100000 in
theorem purlieuref02_In.calls (k : Nat) (A0 : Option Addr) (c0 : Nat) (l0 : List Int) (a1 : Int) (r : Bool) (w : World) (hr0 : Kd.C (Kd.int .i64) w A0 l0.length l0) (hc0 : l0.length ≤ c0) (h : purlieuref02_In.f k l0 a1 = some r) :
    Calls Try.prog 67 #[.slice A0 l0.length c0, .int .i64 a1] w fun e w' => e = .returned (.bool r) ∧ Drawn0 w w' := by
  have HR0 := Aside0.mk hr0
  have HC0 := Aside0.mk hc0
  clear hr0 hc0
  have H : (purlieuref02_In.l0 k l0 a1 0) = some r := h
  clear h
  have H' := Aside0.mk H
  clear H
  go_enter Try.func67, Try.ntmps67
  go_wp2
  go_loopg [5] k (fun kq v5 w' => ∃ (x5_1 : Int), v5 = .int .i64 x5_1 ∧ Aside0 (purlieuref02_In.l0 kq l0 a1 x5_1 = some r) ∧ Aside0 (kq ≤ k) ∧ Drawn0 w w')
  case atStart => exact ⟨(0), (by first | rfl | (simp; done) | (simp [*]; done)), H', ⟨Nat.le_refl _⟩, by repeat (first | exact Drawn0.refl _ | apply Drawn0.step)⟩
  case round =>
    clear H'
    try clear p2
    obtain ⟨x5_1, rfl, HA, HK1, ⟨m1, rfl⟩⟩ := hrel
    cases gk with
    | zero => exact absurd HA.out (by simp [purlieuref02_In.l0])
    | succ k1 =>
      have H := HA.out
      clear HA
      simp only [purlieuref02_In.l0] at H
      by_cases c3 : x5_1 < (l0.length : Int)
      · rw [if_pos c3] at H
        have c3b0 : decide (x5_1 < (l0.length : Int)) = true := decide_eq_true c3
        clear c3
        by_cases c4 : 0 ≤ x5_1
        · rw [if_pos c4] at H
          have c4b0 : decide (0 ≤ x5_1) = true := decide_eq_true c4
          clear c4
          by_cases c5 : (rd l0 x5_1) = a1
          · rw [if_pos c5] at H
            have c5b0 : ((rd l0 x5_1) == a1) = true := beq_iff_eq.mpr c5
            have c5b1 : ((rd l0 x5_1) != a1) = false := bne_eq_false_iff_eq.mpr c5
            clear c5
            obtain rfl := Option.some.inj H
            have p125 : 0 ≤ (x5_1 : Int) := of_decide_eq_true (by first | (with_reducible assumption) | assumption)
            have q125 : x5_1 < (l0.length : Int) := of_decide_eq_true (by first | (with_reducible assumption) | assumption)
            obtain ⟨ad125, e125, hx125_0⟩ := Kd.at_int HR0.out x5_1 p125 q125
            cases e125
            replace p125 := eq_true p125
            replace q125 := eq_true q125
            go_wp2
            go_ret
            exact ⟨by first | rfl | (simp; done) | (simp [*]; done), by repeat (first | exact Drawn0.refl _ | apply Drawn0.step)⟩
          · rw [if_neg c5] at H
            have c5b0 : ((rd l0 x5_1) == a1) = false := beq_eq_false_iff_ne.mpr c5
            have c5b1 : ((rd l0 x5_1) != a1) = true := bne_iff_ne.mpr c5
            have H' := Aside0.mk H
            clear H
            have p125 : 0 ≤ (x5_1 : Int) := of_decide_eq_true (by first | (with_reducible assumption) | assumption)
            have q125 : x5_1 < (l0.length : Int) := of_decide_eq_true (by first | (with_reducible assumption) | assumption)
            obtain ⟨ad125, e125, hx125_0⟩ := Kd.at_int HR0.out x5_1 p125 q125
            cases e125
            replace p125 := eq_true p125
            replace q125 := eq_true q125
            go_wp2
            go_roundg k1
            case measure => have := HK1.out; omega
            case rel => exact ⟨(wrap64 (x5_1 + 1)), (by first | rfl | (simp; done) | (simp [*]; done)), H', ⟨by have := HK1.out; omega⟩, by repeat (first | exact Drawn0.refl _ | apply Drawn0.step)⟩
        · rw [if_neg c4] at H
          exact absurd H (by simp)
      · rw [if_neg c3] at H
        have c3b0 : decide (x5_1 < (l0.length : Int)) = false := decide_eq_false c3
        clear c3
        obtain rfl := Option.some.inj H
        go_wp2
        go_ret
        exact ⟨by first | rfl | (simp; done) | (simp [*]; done), by repeat (first | exact Drawn0.refl _ | apply Drawn0.step)⟩
end Go.Proofs.Ytilfalpfanaanaa.PA

namespace Go.Proofs.Ytilfalpfanaanaa.PA
open Go.RowKit Go.Proofs.YtilfalpfanaanaaW.PrintWords Go.Proofs.YtilfalpfanaanaaW.PrintLast Go.Proofs.YtilfalpfanaanaaW.PrintMore
attribute [local go_sem] max2_int min2_int max_two min_two max_three min_three max_four min_four   -- for this text's walks alone
def purlieuref02_Has.f (k : Nat) (a0_0 : Bool) (l0_1 : List Int) (a1 : Int) : Option (Bool) := (purlieuref02_Can.f k a0_0 l0_1).bind fun t127 => (if t127 = true then (if a1 ≥ 0 then (if a0_0 = true then (some true) else ((purlieuref02_In.f k l0_1 a1).bind fun t128 => (some t128))) else (some false)) else (some false))
set_option maxHeartbeats 8000000 in
set_option maxRecDepth 100000 in
theorem purlieuref02_Has.calls (k : Nat) (a0_0 : Bool) (A0_1 : Option Addr) (c0_1 : Nat) (l0_1 : List Int) (a1 : Int) (r : Bool) (w : World) (hr0_1 : Kd.C (Kd.int .i64) w A0_1 l0_1.length l0_1) (hc0_1 : l0_1.length ≤ c0_1) (h : purlieuref02_Has.f k a0_0 l0_1 a1 = some r) :
    Calls Try.prog 60 #[.agg #[.bool a0_0, .slice A0_1 l0_1.length c0_1], .int .i64 a1] w fun e w' => e = .returned (.bool r) ∧ Below w.heap.size w w' := by
  have hu26 := Try.underlying26
  have HR0_1 := Aside0.mk hr0_1
  have HC0_1 := Aside0.mk hc0_1
  clear hr0_1 hc0_1
  have HB := Aside0.mk (Below.refl w.heap.size w)
  have H : ((purlieuref02_Can.f k a0_0 l0_1).bind fun t127 => (if t127 = true then (if a1 ≥ 0 then (if a0_0 = true then (some true) else ((purlieuref02_In.f k l0_1 a1).bind fun t128 => (some t128))) else (some false)) else (some false))) = some r := h
  clear h
  replace H := Option.bind_eq_some_iff.mp H
  obtain ⟨t127, A30, H⟩ := H
  replace H : (if t127 = true then (if a1 ≥ 0 then (if a0_0 = true then (some true) else ((purlieuref02_In.f k l0_1 a1).bind fun t128 => (some t128))) else (some false)) else (some false)) = some r := H
  have A3 := Aside0.mk A30
  clear A30
  by_cases c4 : t127 = true
  · subst c4
    have H1 : (if a1 ≥ 0 then (if a0_0 = true then (some true) else ((purlieuref02_In.f k l0_1 a1).bind fun t128 => (some t128))) else (some false)) = some r := by rw [if_pos rfl] at H; exact H
    clear H
    have H := H1
    clear H1
    by_cases c5 : a1 ≥ 0
    · rw [if_pos c5] at H
      have c5b0 : decide (0 ≤ a1) = true := decide_eq_true c5
      clear c5
      by_cases c6 : a0_0 = true
      · subst c6
        have H1 : (some true) = some r := by rw [if_pos rfl] at H; exact H
        clear H
        have H := H1
        clear H1
        obtain rfl := Option.some.inj H
        go_enter Try.func60, Try.ntmps60
        go_wp2_with (first | ((with_reducible refine gate_dst (N := 2) rfl ?_); refine box_event ?hg (N := 2) ?hd (cs := #[.bool true, .slice A0_1 l0_1.length c0_1]) (t := 26) ?hr ?_; (case hd => rfl); (case hg => rfl); (case hr => first | (go_simp; done) | (go_simp; rfl)); intro gb126 hg w7 hbox hb; have n0_ := Aside0.mk (below_step (by repeat (first | (with_reducible first | exact HB.out | apply below_alloc | apply pw_below_drewN | apply below_drew1) | exact HB.out)) hb); have n1_ := Aside0.mk (hbox); have n2_ := Aside0.mk ((by rw [hg]; exact (below_size (by repeat (first | (with_reducible first | exact HB.out | apply below_alloc | apply pw_below_drewN | apply below_drew1) | exact HB.out))) : w.heap.size ≤ gb126)); have n3_ := Aside0.mk ((by rw [hg]; exact (below_size (by repeat (first | (with_reducible first | exact HB.out | apply below_alloc | apply pw_below_drewN | apply below_drew1) | exact HB.out))) : w.heap.size ≤ gb126)); clear HB; have HB := n0_; have BK126 := n1_; have GW126 := n2_; have GE126 := n3_; clear n0_ n1_ n2_ n3_; clear hb hbox hg; have hcz8_0 : w7.cell? ⟨gb126, 0, none⟩ = some (.bool true) := (blk_cell BK126.out 0).trans rfl; have hcz8_1 : w7.cell? ⟨gb126, 1, none⟩ = some (.slice A0_1 l0_1.length c0_1) := (blk_cell BK126.out 1).trans rfl; have hfz8_0 := blk_frozen BK126.out 0; have hfz8_1 := blk_frozen BK126.out 1) | ((with_reducible refine gate_callee (f := 32) rfl ?_); refine goesL_ (some 6) rfl rfl Try.func32 (by kernel_rfl) rfl #[.agg #[.bool true, .slice A0_1 l0_1.length c0_1]] rfl (by (try simp only [List.map_toArray, List.map_cons, List.map_nil]); first | done | rfl | (simp only [List.length_drop, List.length_take]; rfl)) ?_; (with_reducible refine (purlieuref02_Can.calls k true _ _ l0_1 true _ ?side1 ?side2 A3.out).mono ?_); (case side1 => repeat (first | exact (Kd.C_below HR0_1.out HB.out) | (with_reducible refine Kd.C_alloc ?_ _) | (with_reducible refine Kd.C_drewN ?_ _) | (with_reducible refine Kd.C_drew ?_))); (case side2 => exact HC0_1.out); rintro e w9 ⟨rfl, hb⟩; refine ⟨_, rfl, ?_⟩; have n0_ := Aside0.mk (blk_below (g := gb126) (o := .cells #[.bool true, .slice A0_1 l0_1.length c0_1] 26 (0, 0)) (by (with_reducible repeat (first | refine blk_drewN ?_ _ | refine blk_drew ?_ | refine blk_alloc ?_ _)); exact BK126.out) hb); have n1_ := Aside0.mk (below_step (by repeat (first | (with_reducible first | exact HB.out | apply below_alloc | apply pw_below_drewN | apply below_drew1 | refine below_set ?_ GE126.out) | exact HB.out)) hb); clear BK126; clear HB; have BK126 := n0_; have HB := n1_; clear n0_ n1_; (try clear hb); (try clear hb2); (try clear hk); (try clear hi); have hcz10_0 : w9.cell? ⟨gb126, 0, none⟩ = some (.bool true) := (blk_cell BK126.out 0).trans rfl; have hcz10_1 : w9.cell? ⟨gb126, 1, none⟩ = some (.slice A0_1 l0_1.length c0_1) := (blk_cell BK126.out 1).trans rfl; have hfz10_0 := blk_frozen BK126.out 0; have hfz10_1 := blk_frozen BK126.out 1))
        go_ret
        exact ⟨by first | rfl | (simp [errW_none, errW_some] <;> rfl) | (simp [*, errW_none, errW_some] <;> rfl), by repeat (first | (with_reducible first | exact HB.out | apply below_alloc | apply pw_below_drewN | apply below_drew1 | refine below_set ?_ GE126.out) | exact HB.out)⟩
      · replace c6 := Bool.eq_false_iff.mpr c6
        subst c6
        have H1 : ((purlieuref02_In.f k l0_1 a1).bind fun t128 => (some t128)) = some r := by rw [if_neg (show ¬ (false = true) by decide)] at H; exact H
        clear H
        have H := H1
        clear H1
        replace H := Option.bind_eq_some_iff.mp H
        obtain ⟨t128, A110, H⟩ := H
        replace H : (some t128) = some r := H
        have A11 := Aside0.mk A110
        clear A110
        obtain rfl := Option.some.inj H
        go_enter Try.func60, Try.ntmps60
        go_wp2_with (first | ((with_reducible refine gate_dst (N := 2) rfl ?_); refine box_event ?hg (N := 2) ?hd (cs := #[.bool false, .slice A0_1 l0_1.length c0_1]) (t := 26) ?hr ?_; (case hd => rfl); (case hg => rfl); (case hr => first | (go_simp; done) | (go_simp; rfl)); intro gb126 hg w12 hbox hb; have n0_ := Aside0.mk (below_step (by repeat (first | (with_reducible first | exact HB.out | apply below_alloc | apply pw_below_drewN | apply below_drew1) | exact HB.out)) hb); have n1_ := Aside0.mk (hbox); have n2_ := Aside0.mk ((by rw [hg]; exact (below_size (by repeat (first | (with_reducible first | exact HB.out | apply below_alloc | apply pw_below_drewN | apply below_drew1) | exact HB.out))) : w.heap.size ≤ gb126)); have n3_ := Aside0.mk ((by rw [hg]; exact (below_size (by repeat (first | (with_reducible first | exact HB.out | apply below_alloc | apply pw_below_drewN | apply below_drew1) | exact HB.out))) : w.heap.size ≤ gb126)); clear HB; have HB := n0_; have BK126 := n1_; have GW126 := n2_; have GE126 := n3_; clear n0_ n1_ n2_ n3_; clear hb hbox hg; have hcz13_0 : w12.cell? ⟨gb126, 0, none⟩ = some (.bool false) := (blk_cell BK126.out 0).trans rfl; have hcz13_1 : w12.cell? ⟨gb126, 1, none⟩ = some (.slice A0_1 l0_1.length c0_1) := (blk_cell BK126.out 1).trans rfl; have hfz13_0 := blk_frozen BK126.out 0; have hfz13_1 := blk_frozen BK126.out 1) | ((with_reducible refine gate_callee (f := 32) rfl ?_); refine goesL_ (some 6) rfl rfl Try.func32 (by kernel_rfl) rfl #[.agg #[.bool false, .slice A0_1 l0_1.length c0_1]] rfl (by (try simp only [List.map_toArray, List.map_cons, List.map_nil]); first | done | rfl | (simp only [List.length_drop, List.length_take]; rfl)) ?_; (with_reducible refine (purlieuref02_Can.calls k false _ _ l0_1 true _ ?side1 ?side2 A3.out).mono ?_); (case side1 => repeat (first | exact (Kd.C_below HR0_1.out HB.out) | (with_reducible refine Kd.C_alloc ?_ _) | (with_reducible refine Kd.C_drewN ?_ _) | (with_reducible refine Kd.C_drew ?_))); (case side2 => exact HC0_1.out); rintro e w14 ⟨rfl, hb⟩; refine ⟨_, rfl, ?_⟩; have n0_ := Aside0.mk (blk_below (g := gb126) (o := .cells #[.bool false, .slice A0_1 l0_1.length c0_1] 26 (0, 0)) (by (with_reducible repeat (first | refine blk_drewN ?_ _ | refine blk_drew ?_ | refine blk_alloc ?_ _)); exact BK126.out) hb); have n1_ := Aside0.mk (below_step (by repeat (first | (with_reducible first | exact HB.out | apply below_alloc | apply pw_below_drewN | apply below_drew1 | refine below_set ?_ GE126.out) | exact HB.out)) hb); clear BK126; clear HB; have BK126 := n0_; have HB := n1_; clear n0_ n1_; (try clear hb); (try clear hb2); (try clear hk); (try clear hi); have hcz15_0 : w14.cell? ⟨gb126, 0, none⟩ = some (.bool false) := (blk_cell BK126.out 0).trans rfl; have hcz15_1 : w14.cell? ⟨gb126, 1, none⟩ = some (.slice A0_1 l0_1.length c0_1) := (blk_cell BK126.out 1).trans rfl; have hfz15_0 := blk_frozen BK126.out 0; have hfz15_1 := blk_frozen BK126.out 1) | (go_at_call 67; (with_reducible refine (purlieuref02_In.calls k _ _ l0_1 a1 t128 _ ?side1 ?side2 A11.out).mono ?_); (case side1 => repeat (first | exact (Kd.C_below HR0_1.out HB.out) | (with_reducible refine Kd.C_alloc ?_ _) | (with_reducible refine Kd.C_drewN ?_ _) | (with_reducible refine Kd.C_drew ?_))); (case side2 => exact HC0_1.out); rintro e w' ⟨rfl, ⟨nd, rfl⟩⟩))
        go_ret
        exact ⟨by first | rfl | (simp [errW_none, errW_some] <;> rfl) | (simp [*, errW_none, errW_some] <;> rfl), by repeat (first | (with_reducible first | exact HB.out | apply below_alloc | apply pw_below_drewN | apply below_drew1 | refine below_set ?_ GE126.out) | exact HB.out)⟩
    · rw [if_neg c5] at H
      have c5b0 : decide (0 ≤ a1) = false := decide_eq_false c5
      clear c5
      obtain rfl := Option.some.inj H
      go_enter Try.func60, Try.ntmps60
      go_wp2_with (first | ((with_reducible refine gate_dst (N := 2) rfl ?_); refine box_event ?hg (N := 2) ?hd (cs := #[.bool a0_0, .slice A0_1 l0_1.length c0_1]) (t := 26) ?hr ?_; (case hd => rfl); (case hg => rfl); (case hr => first | (go_simp; done) | (go_simp; rfl)); intro gb126 hg w16 hbox hb; have n0_ := Aside0.mk (below_step (by repeat (first | (with_reducible first | exact HB.out | apply below_alloc | apply pw_below_drewN | apply below_drew1) | exact HB.out)) hb); have n1_ := Aside0.mk (hbox); have n2_ := Aside0.mk ((by rw [hg]; exact (below_size (by repeat (first | (with_reducible first | exact HB.out | apply below_alloc | apply pw_below_drewN | apply below_drew1) | exact HB.out))) : w.heap.size ≤ gb126)); have n3_ := Aside0.mk ((by rw [hg]; exact (below_size (by repeat (first | (with_reducible first | exact HB.out | apply below_alloc | apply pw_below_drewN | apply below_drew1) | exact HB.out))) : w.heap.size ≤ gb126)); clear HB; have HB := n0_; have BK126 := n1_; have GW126 := n2_; have GE126 := n3_; clear n0_ n1_ n2_ n3_; clear hb hbox hg; have hcz17_0 : w16.cell? ⟨gb126, 0, none⟩ = some (.bool a0_0) := (blk_cell BK126.out 0).trans rfl; have hcz17_1 : w16.cell? ⟨gb126, 1, none⟩ = some (.slice A0_1 l0_1.length c0_1) := (blk_cell BK126.out 1).trans rfl; have hfz17_0 := blk_frozen BK126.out 0; have hfz17_1 := blk_frozen BK126.out 1) | ((with_reducible refine gate_callee (f := 32) rfl ?_); refine goesL_ (some 6) rfl rfl Try.func32 (by kernel_rfl) rfl #[.agg #[.bool a0_0, .slice A0_1 l0_1.length c0_1]] rfl (by (try simp only [List.map_toArray, List.map_cons, List.map_nil]); first | done | rfl | (simp only [List.length_drop, List.length_take]; rfl)) ?_; (with_reducible refine (purlieuref02_Can.calls k a0_0 _ _ l0_1 true _ ?side1 ?side2 A3.out).mono ?_); (case side1 => repeat (first | exact (Kd.C_below HR0_1.out HB.out) | (with_reducible refine Kd.C_alloc ?_ _) | (with_reducible refine Kd.C_drewN ?_ _) | (with_reducible refine Kd.C_drew ?_))); (case side2 => exact HC0_1.out); rintro e w18 ⟨rfl, hb⟩; refine ⟨_, rfl, ?_⟩; have n0_ := Aside0.mk (blk_below (g := gb126) (o := .cells #[.bool a0_0, .slice A0_1 l0_1.length c0_1] 26 (0, 0)) (by (with_reducible repeat (first | refine blk_drewN ?_ _ | refine blk_drew ?_ | refine blk_alloc ?_ _)); exact BK126.out) hb); have n1_ := Aside0.mk (below_step (by repeat (first | (with_reducible first | exact HB.out | apply below_alloc | apply pw_below_drewN | apply below_drew1 | refine below_set ?_ GE126.out) | exact HB.out)) hb); clear BK126; clear HB; have BK126 := n0_; have HB := n1_; clear n0_ n1_; (try clear hb); (try clear hb2); (try clear hk); (try clear hi)))
      go_ret
      exact ⟨by first | rfl | (simp [errW_none, errW_some] <;> rfl) | (simp [*, errW_none, errW_some] <;> rfl), by repeat (first | (with_reducible first | exact HB.out | apply below_alloc | apply pw_below_drewN | apply below_drew1 | refine below_set ?_ GE126.out) | exact HB.out)⟩
  · replace c4 := Bool.eq_false_iff.mpr c4
    subst c4
    have H1 : (some false) = some r := by rw [if_neg (show ¬ (false = true) by decide)] at H; exact H
    clear H
    have H := H1
    clear H1
    obtain rfl := Option.some.inj H
    go_enter Try.func60, Try.ntmps60
    go_wp2_with (first | ((with_reducible refine gate_dst (N := 2) rfl ?_); refine box_event ?hg (N := 2) ?hd (cs := #[.bool a0_0, .slice A0_1 l0_1.length c0_1]) (t := 26) ?hr ?_; (case hd => rfl); (case hg => rfl); (case hr => first | (go_simp; done) | (go_simp; rfl)); intro gb126 hg w19 hbox hb; have n0_ := Aside0.mk (below_step (by repeat (first | (with_reducible first | exact HB.out | apply below_alloc | apply pw_below_drewN | apply below_drew1) | exact HB.out)) hb); have n1_ := Aside0.mk (hbox); have n2_ := Aside0.mk ((by rw [hg]; exact (below_size (by repeat (first | (with_reducible first | exact HB.out | apply below_alloc | apply pw_below_drewN | apply below_drew1) | exact HB.out))) : w.heap.size ≤ gb126)); have n3_ := Aside0.mk ((by rw [hg]; exact (below_size (by repeat (first | (with_reducible first | exact HB.out | apply below_alloc | apply pw_below_drewN | apply below_drew1) | exact HB.out))) : w.heap.size ≤ gb126)); clear HB; have HB := n0_; have BK126 := n1_; have GW126 := n2_; have GE126 := n3_; clear n0_ n1_ n2_ n3_; clear hb hbox hg; have hcz20_0 : w19.cell? ⟨gb126, 0, none⟩ = some (.bool a0_0) := (blk_cell BK126.out 0).trans rfl; have hcz20_1 : w19.cell? ⟨gb126, 1, none⟩ = some (.slice A0_1 l0_1.length c0_1) := (blk_cell BK126.out 1).trans rfl; have hfz20_0 := blk_frozen BK126.out 0; have hfz20_1 := blk_frozen BK126.out 1) | ((with_reducible refine gate_callee (f := 32) rfl ?_); refine goesL_ (some 6) rfl rfl Try.func32 (by kernel_rfl) rfl #[.agg #[.bool a0_0, .slice A0_1 l0_1.length c0_1]] rfl (by (try simp only [List.map_toArray, List.map_cons, List.map_nil]); first | done | rfl | (simp only [List.length_drop, List.length_take]; rfl)) ?_; (with_reducible refine (purlieuref02_Can.calls k a0_0 _ _ l0_1 false _ ?side1 ?side2 A3.out).mono ?_); (case side1 => repeat (first | exact (Kd.C_below HR0_1.out HB.out) | (with_reducible refine Kd.C_alloc ?_ _) | (with_reducible refine Kd.C_drewN ?_ _) | (with_reducible refine Kd.C_drew ?_))); (case side2 => exact HC0_1.out); rintro e w21 ⟨rfl, hb⟩; refine ⟨_, rfl, ?_⟩; have n0_ := Aside0.mk (blk_below (g := gb126) (o := .cells #[.bool a0_0, .slice A0_1 l0_1.length c0_1] 26 (0, 0)) (by (with_reducible repeat (first | refine blk_drewN ?_ _ | refine blk_drew ?_ | refine blk_alloc ?_ _)); exact BK126.out) hb); have n1_ := Aside0.mk (below_step (by repeat (first | (with_reducible first | exact HB.out | apply below_alloc | apply pw_below_drewN | apply below_drew1 | refine below_set ?_ GE126.out) | exact HB.out)) hb); clear BK126; clear HB; have BK126 := n0_; have HB := n1_; clear n0_ n1_; (try clear hb); (try clear hb2); (try clear hk); (try clear hi)))
    go_ret
    exact ⟨by first | rfl | (simp [errW_none, errW_some] <;> rfl) | (simp [*, errW_none, errW_some] <;> rfl), by repeat (first | (with_reducible first | exact HB.out | apply below_alloc | apply pw_below_drewN | apply below_drew1 | refine below_set ?_ GE126.out) | exact HB.out)⟩
end Go.Proofs.Ytilfalpfanaanaa.PA

namespace Go.Proofs.Ytilfalpfanaanaa.PA
open Go.RowKit Go.Proofs.YtilfalpfanaanaaW.PrintWords Go.Proofs.YtilfalpfanaanaaW.PrintLast Go.Proofs.YtilfalpfanaanaaW.PrintMore
def canB (all : Bool) (l : List Int) : Bool := if all then l.length == 0 else canL l
theorem can_all (all : Bool) (l : List Int) (hn : l.length ≤ 140737488355328) (k : Nat) (hk : l.length < k) : white_can.f k all l = some (canB all l) := by
  cases all with
  | false => exact can_eq l hn k hk
  | true =>
    unfold white_can.f canB
    rw [if_pos rfl, if_pos rfl]
    congr 1
    rw [Bool.eq_iff_iff]
    simp
theorem okFrom_iff (l : List Int) : ∀ d i, i + d = l.length → (okFrom l d i = true ↔ ∀ j, i ≤ j → j < l.length → okAt l j = true) := by
  intro d
  induction d with
  | zero => intro i h; simp only [okFrom, true_iff]; intro j h1 h2; omega
  | succ d ih =>
    intro i h
    have := ih (i + 1) (by omega)
    simp only [okFrom, Bool.and_eq_true, this]
    constructor
    · rintro ⟨h1, h2⟩ j hj hl
      rcases Nat.eq_or_lt_of_le hj with rfl | hlt
      · exact h1
      · exact h2 j hlt hl
    · intro h1
      exact ⟨h1 i (Nat.le_refl _) (by omega), fun j hj hl => h1 j (by omega) hl⟩
theorem okAt_iff (l : List Int) (j : Nat) : okAt l j = true ↔ 0 ≤ l.getD j 0 ∧ (j = 0 ∨ l.getD (j - 1) 0 < l.getD j 0) := by
  unfold okAt
  rw [Bool.and_eq_true, Bool.or_eq_true, decide_eq_true_iff, decide_eq_true_iff, beq_iff_eq]
theorem canL_iff (l : List Int) : canL l = true ↔ (∀ j, j < l.length → 0 ≤ l.getD j 0 ∧ (j = 0 ∨ l.getD (j - 1) 0 < l.getD j 0)) ∧ l.length ≤ 32 := by
  unfold canL
  rw [Bool.and_eq_true, decide_eq_true_iff, okFrom_iff l l.length 0 (by omega)]
  constructor
  · rintro ⟨h, h2⟩
    exact ⟨fun j hj => (okAt_iff l j).1 (h j (Nat.zero_le _) hj), h2⟩
  · rintro ⟨h, h2⟩
    exact ⟨fun j _ hj => (okAt_iff l j).2 (h j hj), h2⟩
theorem rises_of (l : List Int) (h : ∀ j, j < l.length → (j = 0 ∨ l.getD (j - 1) 0 < l.getD j 0)) : ∀ j i, i < j → j < l.length → l.getD i 0 < l.getD j 0 := by
  intro j
  induction j with
  | zero => intro i hi; omega
  | succ j ih =>
    intro i hi hj
    have h1 := (h (j + 1) hj).resolve_left (by omega)
    rw [Nat.add_sub_cancel] at h1
    rcases Nat.eq_or_lt_of_le (Nat.le_of_lt_succ hi) with rfl | hlt
    · exact h1
    · have := ih i hlt (by omega)
      omega
theorem getD_mem {l : List Int} {j : Nat} (h : j < l.length) : l.getD j 0 ∈ l := by
  rw [List.getD_eq_getElem?_getD, List.getElem?_eq_getElem h]
  exact List.getElem_mem h
theorem mem_getD {l : List Int} {x : Int} (h : x ∈ l) : ∃ j, j < l.length ∧ l.getD j 0 = x := by
  obtain ⟨j, hj, rfl⟩ := List.getElem_of_mem h
  exact ⟨j, hj, by rw [List.getD_eq_getElem?_getD, List.getElem?_eq_getElem hj]; rfl⟩
theorem gd {l : List Int} {j : Nat} (h : j < l.length) : l.getD j 0 = l[j] := by
  rw [List.getD_eq_getElem?_getD, List.getElem?_eq_getElem h]; rfl
theorem pw_iff (l : List Int) : l.Pairwise (· < ·) ↔ ∀ j i, i < j → j < l.length → l.getD i 0 < l.getD j 0 := by
  rw [List.pairwise_iff_getElem]
  constructor
  · intro h j i hi hj
    have := h i j (by omega) hj hi
    rw [gd hj, gd (Nat.lt_trans hi hj)]
    exact this
  · intro h i j hi hj hij
    have := h j i hij hj
    rw [gd hj, gd hi] at this
    exact this
theorem canL_iff' (l : List Int) : canL l = true ↔ l.Pairwise (· < ·) ∧ (∀ x ∈ l, 0 ≤ x) ∧ l.length ≤ 32 := by
  rw [canL_iff, pw_iff]
  constructor
  · rintro ⟨h, h2⟩
    exact ⟨rises_of l (fun j hj => (h j hj).2), fun x hx => by obtain ⟨j, hj, rfl⟩ := mem_getD hx; exact (h j hj).1, h2⟩
  · rintro ⟨h, h1, h2⟩
    refine ⟨fun j hj => ⟨h1 _ (getD_mem hj), ?_⟩, h2⟩
    rcases Nat.eq_zero_or_pos j with h0 | h0
    · exact .inl h0
    · exact .inr (h j (j - 1) (by omega) hj)
theorem mid_eq {i j : Nat} (hi : i < 70368744177664) (hj : j < 70368744177664) : wrap64 ((IntKind.u64.wrap (wrap64 ((i : Int) + (j : Int)))) / 2) = (((i + j) / 2 : Nat) : Int) := by
  have h1 : wrap64 ((i : Int) + (j : Int)) = ((i + j : Nat) : Int) := by unfold wrap64; omega
  rw [h1]
  have h2 : IntKind.u64.wrap ((i + j : Nat) : Int) = ((i + j : Nat) : Int) := by simp [IntKind.wrap, IntKind.bits, IntKind.signed]; omega
  rw [h2]
  unfold wrap64
  omega
theorem less_eq (a b : Int) : cmp_Less_int.f a b = some (decide (a < b)) := by
  unfold cmp_Less_int.f cmp_isNaN_int.f
  simp
theorem nan_eq (a : Int) : slices_isNaN_int.f a = some false := by
  unfold slices_isNaN_int.f
  simp
theorem bs_l0 (l : List Int) (x : Int) (hn : l.length < 70368744177664) (hs : ∀ j i, i < j → j < l.length → l.getD i 0 < l.getD j 0) :
    ∀ (d k i j : Nat), j - i ≤ d → d < k → i ≤ j → j ≤ l.length → (∀ m, m < i → l.getD m 0 < x) → (∀ m, j ≤ m → m < l.length → x ≤ l.getD m 0) →
    ∃ p : Int, slices_BinarySearch_int_int.l0 k l x (l.length : Int) (i : Int) (j : Int) = some (p, l.contains x) := by
  intro d
  induction d with
  | zero =>
    intro k i j hd hk hij hj hlo hhi
    obtain ⟨k, rfl⟩ : ∃ m, k = m + 1 := ⟨k - 1, by omega⟩
    obtain rfl : i = j := by omega
    simp only [slices_BinarySearch_int_int.l0]
    rw [if_neg (by omega)]
    by_cases hl : i < l.length
    · rw [if_pos (by omega), if_pos (by omega), if_pos (by omega), rd_nat]
      by_cases he : l.getD i 0 = x
      · rw [if_pos he]
        refine ⟨(i : Int), ?_⟩
        rw [show l.contains x = true from List.contains_iff_mem.2 (he ▸ getD_mem hl)]
      · rw [if_neg he, nan_eq]
        simp only [Option.bind_some]
        refine ⟨(i : Int), ?_⟩
        rw [if_neg (by simp), show l.contains x = false from ?_]
        rw [Bool.eq_false_iff]
        intro hc
        obtain ⟨m, hm, hx⟩ := mem_getD (List.contains_iff_mem.1 hc)
        rcases Nat.lt_trichotomy m i with h | h | h
        · have := hlo m h; omega
        · subst h; exact he hx
        · have := hs m i h hm
          have := hhi i (Nat.le_refl _) hl
          omega
    · rw [if_neg (by omega)]
      refine ⟨(i : Int), ?_⟩
      rw [show l.contains x = false from ?_]
      rw [Bool.eq_false_iff]
      intro hc
      obtain ⟨m, hm, hx⟩ := mem_getD (List.contains_iff_mem.1 hc)
      have := hlo m (by omega)
      omega
  | succ d ih =>
    intro k i j hd hk hij hj hlo hhi
    by_cases hz : i = j
    · subst hz
      exact ih k i i (by omega) (by omega) hij hj hlo hhi
    obtain ⟨k, rfl⟩ : ∃ m, k = m + 1 := ⟨k - 1, by omega⟩
    have hm1 : i ≤ (i + j) / 2 := by omega
    have hm2 : (i + j) / 2 < j := by omega
    simp only [slices_BinarySearch_int_int.l0]
    rw [if_pos (by omega), mid_eq (by omega) (by omega), if_pos (by omega), if_pos (by omega), rd_nat, less_eq]
    simp only [Option.bind_some]
    by_cases hc : l.getD ((i + j) / 2) 0 < x
    · rw [if_pos (by simpa using hc), show wrap64 ((((i + j) / 2 : Nat) : Int) + 1) = (((i + j) / 2 + 1 : Nat) : Int) from wrap_step (by omega)]
      refine ih k _ j (by omega) (by omega) (by omega) hj (fun m hm => ?_) hhi
      rcases Nat.lt_or_ge m ((i + j) / 2) with h | h
      · have := hs _ m h (by omega); omega
      · obtain rfl : m = (i + j) / 2 := by omega
        exact hc
    · rw [if_neg (by simpa using hc)]
      refine ih k i _ (by omega) (by omega) (by omega) (by omega) hlo (fun m hm hl => ?_)
      rcases Nat.eq_or_lt_of_le hm with h | h
      · subst h; omega
      · have := hs m _ h hl; omega
theorem bs_eq (l : List Int) (x : Int) (hn : l.length < 70368744177664) (hs : l.Pairwise (· < ·)) (k : Nat) (hk : l.length < k) : ∃ p : Int, slices_BinarySearch_int_int.f k l x = some (p, l.contains x) := by
  unfold slices_BinarySearch_int_int.f
  exact bs_l0 l x hn ((pw_iff l).1 hs) l.length k 0 l.length (by omega) hk (by omega) (Nat.le_refl _) (fun m hm => by omega) (fun m hm hl => by omega)
def hasB (all : Bool) (l : List Int) (c : Int) : Bool := decide (0 ≤ c) && canB all l && (l.contains c || all)
theorem canB_pw {all : Bool} {l : List Int} (h : canB all l = true) : l.Pairwise (· < ·) := by
  unfold canB at h
  cases all with
  | false => exact ((canL_iff' l).1 (by simpa using h)).1
  | true =>
    have : l = [] := by simpa using h
    subst this
    exact List.Pairwise.nil
theorem has_eq (all : Bool) (l : List Int) (c : Int) (hn : l.length < 70368744177664) (k : Nat) (hk : l.length < k) : white_has.f k all l c = some (hasB all l c) := by
  unfold white_has.f hasB
  by_cases h0 : c < 0
  · rw [if_pos h0, decide_eq_false (by omega)]
    rfl
  rw [if_neg h0, can_all all l (by omega) k hk, decide_eq_true (by omega)]
  simp only [Option.bind_some]
  by_cases hc : canB all l = true
  · rw [if_pos hc, hc]
    obtain ⟨p, hp⟩ := bs_eq l c hn (canB_pw hc) k hk
    rw [hp]
    simp only [Option.bind_some]
    by_cases hl : l.contains c = true
    · rw [if_pos hl, hl]; rfl
    · rw [if_neg hl, Bool.eq_false_iff.2 hl]; rfl
  · rw [if_neg hc, Bool.eq_false_iff.2 hc]; rfl
theorem rcan_l0 (l : List Int) (hn : l.length ≤ 140737488355328) : ∀ (d k i : Nat), i + d = l.length → d < k → purlieuref02_Can.l0 k (i : Int) false l = some (okFrom l d i && (decide (d = 0) || decide (l.length ≤ 32))) := by
  intro d
  induction d with
  | zero =>
    intro k i hi hk
    obtain ⟨k, rfl⟩ : ∃ m, k = m + 1 := ⟨k - 1, by omega⟩
    simp only [purlieuref02_Can.l0]
    rw [if_neg (by omega)]
    rfl
  | succ d ih =>
    intro k i hi hk
    obtain ⟨k, rfl⟩ : ∃ m, k = m + 1 := ⟨k - 1, by omega⟩
    have step := ih k (i + 1) (by omega) (by omega)
    have tail : okAt l i = true → (if (i : Int) ≥ 32 then some false else purlieuref02_Can.l0 k (wrap64 ((i : Int) + 1)) false l) = some (okFrom l (d + 1) i && (decide (d + 1 = 0) || decide (l.length ≤ 32))) := by
      intro hok
      simp only [okFrom, hok, Bool.true_and]
      by_cases h32 : (i : Int) ≥ 32
      · rw [if_pos h32, decide_eq_false (show ¬ l.length ≤ 32 by omega), decide_eq_false (show ¬ d + 1 = 0 by omega)]
        simp
      · rw [if_neg h32, wrap_step (by omega), step, decide_eq_false (show ¬ d + 1 = 0 by omega)]
        by_cases hd : d = 0
        · rw [decide_eq_true hd, decide_eq_true (show l.length ≤ 32 by omega)]; rfl
        · rw [decide_eq_false hd]
    simp only [purlieuref02_Can.l0]
    rw [if_pos (by omega), if_neg (by simp), if_pos (by omega), rd_nat]
    by_cases h0 : l.getD i 0 < 0
    · rw [if_pos h0]
      have : okAt l i = false := by unfold okAt; simp only [Bool.and_eq_false_iff]; exact .inl (by simpa using h0)
      simp [okFrom, this]
    · rw [if_neg h0]
      rcases Nat.eq_zero_or_pos i with rfl | hp
      · rw [if_neg (by omega)]
        exact tail ((okAt_iff l 0).2 ⟨by omega, .inl rfl⟩)
      · rw [if_pos (by omega), wrap_back (by omega) hp, if_pos (by omega), if_pos (by omega), rd_nat]
        by_cases h1 : l.getD i 0 ≤ l.getD (i - 1) 0
        · rw [if_pos h1]
          have : okAt l i = false := by
            rw [Bool.eq_false_iff]
            intro h
            have := (okAt_iff l i).1 h
            omega
          simp [okFrom, this]
        · rw [if_neg h1]
          exact tail ((okAt_iff l i).2 ⟨by omega, .inr (by omega)⟩)
theorem rcan_eq (all : Bool) (l : List Int) (hn : l.length ≤ 140737488355328) (k : Nat) (hk : l.length < k) : purlieuref02_Can.f k all l = some (canB all l) := by
  unfold purlieuref02_Can.f canB
  cases all with
  | false =>
    have h := rcan_l0 l hn l.length k 0 (by omega) hk
    rw [show ((0 : Nat) : Int) = 0 from rfl] at h
    rw [h, if_neg (by simp)]
    unfold canL
    by_cases h0 : l.length = 0
    · rw [decide_eq_true h0, decide_eq_true (show l.length ≤ 32 by omega)]; rfl
    · rw [decide_eq_false h0]; rfl
  | true =>
    obtain ⟨k, rfl⟩ : ∃ m, k = m + 1 := ⟨k - 1, by omega⟩
    simp only [purlieuref02_Can.l0, if_true]
    by_cases h0 : l.length = 0
    · rw [if_neg (by omega)]; simp [h0]
    · rw [if_pos (by omega)]; simp [h0]
theorem rin_l0 (l : List Int) (x : Int) (hn : l.length ≤ 140737488355328) : ∀ (d k i : Nat), i + d = l.length → d < k → purlieuref02_In.l0 k l x (i : Int) = some ((l.drop i).contains x) := by
  intro d
  induction d with
  | zero =>
    intro k i hi hk
    obtain ⟨k, rfl⟩ : ∃ m, k = m + 1 := ⟨k - 1, by omega⟩
    simp only [purlieuref02_In.l0]
    rw [if_neg (by omega), List.drop_of_length_le (by omega)]
    rfl
  | succ d ih =>
    intro k i hi hk
    obtain ⟨k, rfl⟩ : ∃ m, k = m + 1 := ⟨k - 1, by omega⟩
    have hl : i < l.length := by omega
    simp only [purlieuref02_In.l0]
    rw [if_pos (by omega), if_pos (by omega), rd_nat, List.drop_eq_getElem_cons hl, List.getD_eq_getElem?_getD, List.getElem?_eq_getElem hl]
    simp only [Option.getD_some, List.contains_cons]
    by_cases h : l[i] = x
    · rw [if_pos h]; simp [h]
    · rw [if_neg h, wrap_step (by omega), ih k (i + 1) (by omega) (by omega)]
      have : (x == l[i]) = false := by simpa using fun e => h e.symm
      rw [this]; rfl
theorem rin_eq (l : List Int) (x : Int) (hn : l.length ≤ 140737488355328) (k : Nat) (hk : l.length < k) : purlieuref02_In.f k l x = some (l.contains x) := by
  unfold purlieuref02_In.f
  exact rin_l0 l x hn l.length k 0 (by omega) hk
theorem rhas_eq (all : Bool) (l : List Int) (c : Int) (hn : l.length ≤ 140737488355328) (k : Nat) (hk : l.length < k) : purlieuref02_Has.f k all l c = some (hasB all l c) := by
  unfold purlieuref02_Has.f hasB
  rw [rcan_eq all l hn k hk]
  simp only [Option.bind_some]
  by_cases hc : canB all l = true
  · rw [if_pos hc, hc]
    by_cases h0 : c ≥ 0
    · rw [if_pos h0, decide_eq_true (show 0 ≤ c from h0)]
      cases all with
      | true => rw [if_pos rfl]; simp
      | false => rw [if_neg (by simp), rin_eq l c hn k hk]; simp
    · rw [if_neg h0, decide_eq_false (show ¬ 0 ≤ c by omega)]; rfl
  · rw [if_neg hc, Bool.eq_false_iff.2 hc]; simp
end Go.Proofs.Ytilfalpfanaanaa.PA

namespace Go.Proofs.Ytilfalpfanaanaa.PA
open Go.RowKit Go.Proofs.YtilfalpfanaanaaW.PrintWords Go.Proofs.YtilfalpfanaanaaW.PrintLast Go.Proofs.YtilfalpfanaanaaW.PrintMore
theorem sub1_calls (c : Int) (g : Nat) (b0 : Bool) (B : Option Addr) (cB : Nat) (m : List Int) (w : World) (hg : w.heap[g]? = some (.cells #[.bool b0, .slice B m.length cB] 26 (0, 0)))
    (hr : Kd.C (Kd.int .i64) w B m.length m) (hc : m.length ≤ cB) (hm : m.length < 70368744177664) :
    Calls Try.prog 65 #[.int .i64 c, .pointer (some ⟨g, 0, none⟩)] w fun e w' => e = .returned (.bool (!hasB b0 m c)) ∧ Below w.heap.size w w' := by
  have hu := Try.underlying26
  have HR := Aside0.mk hr
  have HH := Aside0.mk (has_eq b0 m c hm (m.length + 1) (by omega))
  have HC := Aside0.mk hc
  clear hr hc hm
  obtain ⟨r, hr⟩ : ∃ r, r = hasB b0 m c := ⟨_, rfl⟩
  rw [← hr] at HH ⊢
  clear hr
  have hcz0 := (blk_cell hg 0).trans rfl
  have hcz1 := (blk_cell hg 1).trans rfl
  clear hg
  go_enter Try.func65, Try.ntmps65
  go_wp2_with (first
    | ((with_reducible refine gate_callee (f := 66) rfl ?_); refine goesL_ (some 6) rfl rfl Try.func66 (by kernel_rfl) rfl #[.agg #[.bool b0, .slice B m.length cB], .int .i64 c] rfl (by (try simp only [List.map_toArray, List.map_cons, List.map_nil]); first | done | rfl) ?_; refine (white_has.calls (m.length + 1) b0 B cB m c r _ ?s1 ?s2 HH.out).mono ?_; (case s1 => exact HR.out); (case s2 => exact HC.out); rintro e w2 ⟨rfl, hb⟩; refine ⟨_, rfl, ?_⟩; have HB := Aside0.mk hb; clear hb))
  go_ret
  exact ⟨rfl, HB.out⟩
def IdxPost (l : List Int) (p : Int → Bool) (w : World) (e : Ending) (w' : World) : Prop := ∃ i : Int, e = .returned (.int .i64 i) ∧ decide (0 ≤ i) = l.any p ∧ Below w.heap.size w w'
theorem idx_calls (A : Option Addr) (cA : Nat) (l : List Int) (g : Nat) (b0 : Bool) (B : Option Addr) (cB : Nat) (m : List Int) (w : World) (hg : w.heap[g]? = some (.cells #[.bool b0, .slice B m.length cB] 26 (0, 0)))
    (hl : Kd.C (Kd.int .i64) w A l.length l) (hlc : l.length ≤ cA) (hln : l.length ≤ 140737488355328)
    (hr : Kd.C (Kd.int .i64) w B m.length m) (hc : m.length ≤ cB) (hm : m.length < 70368744177664) :
    Calls Try.prog 71 #[.slice A l.length cA, .func (.func 65) #[] #[.pointer (some ⟨g, 0, none⟩)]] w (IdxPost l (fun c => !hasB b0 m c) w) := by
  have HG := Aside0.mk hg
  have HL := Aside0.mk hl
  have HR := Aside0.mk hr
  have HC := Aside0.mk hc
  have HM := Aside0.mk hm
  clear hg hl hr hc hm
  go_enter Try.func71, Try.ntmps71
  go_wp2_with fail
  go_loopg [8] l.length (fun kq v8 wr => ∃ x : Int, v8 = .int .i64 x ∧ Aside0 (0 ≤ x ∧ x + kq = l.length) ∧ Aside0 (∀ y ∈ l.take x.toNat, hasB b0 m y = true) ∧ Aside0 (Below w.heap.size w wr))
  case atStart => exact ⟨0, rfl, ⟨by omega⟩, ⟨by simp⟩, ⟨Below.refl _ _⟩⟩
  case round =>
    obtain ⟨x, rfl, HK, HA, HB⟩ := hrel
    by_cases hlt : x < (l.length : Int)
    · have c0 : decide (x < (l.length : Int)) = true := decide_eq_true hlt
      obtain ⟨h0, h1⟩ := HK.out
      obtain ⟨ad, ead, hx⟩ := Kd.at_int HL.out x h0 hlt
      cases ead
      replace hx := (HB.out.cell (World.block_lt_of_cell? w _ hx)).trans hx
      have HT := Aside0.mk (show l.take (x + 1).toNat = l.take x.toNat ++ [rd l x] by
        rw [show (x + 1).toNat = x.toNat + 1 by omega, List.take_succ_eq_append_getElem (by omega)]
        show _ = l.take x.toNat ++ [l.getD x.toNat 0]
        rw [gd (by omega)])
      have HMem := Aside0.mk (show rd l x ∈ l from getD_mem (by omega))
      have p0 := eq_true h0
      have q0 := eq_true hlt
      have HX := Aside0.mk (And.intro h0 (And.intro h1 hlt))
      have hx7 : x < 9223372036854775807 := by omega
      have hx0 := h0
      clear h0 h1 hlt p0
      by_cases hh : hasB b0 m (rd l x) = true
      · have HH := Aside0.mk hh
        clear hh
        go_wp2_with (go_at_call 65; refine (sub1_calls (rd l x) g b0 B cB m _ ?s1 ?s2 HC.out HM.out).mono ?_; (case s1 => exact blk_below HG.out HB.out); (case s2 => exact Kd.C_below HR.out HB.out); rw [HH.out]; rintro e w2 ⟨rfl, hb⟩; have HB2 := Aside0.mk (below_step HB.out hb); clear hb)
        go_roundg (gk - 1)
        case measure => have := HX.out; omega
        case rel => exact ⟨x + 1, by go_num, ⟨by have := HX.out; omega⟩, ⟨by
          rw [HT.out]
          intro y hy
          rcases List.mem_append.1 hy with h | h
          · exact HA.out y h
          · rw [List.mem_singleton.1 h]; exact HH.out⟩, HB2⟩
      · have HH := Aside0.mk (Bool.eq_false_iff.2 hh)
        clear hh
        go_wp2_with (go_at_call 65; refine (sub1_calls (rd l x) g b0 B cB m _ ?s1 ?s2 HC.out HM.out).mono ?_; (case s1 => exact blk_below HG.out HB.out); (case s2 => exact Kd.C_below HR.out HB.out); rw [HH.out]; rintro e w2 ⟨rfl, hb⟩; have HB2 := Aside0.mk (below_step HB.out hb); clear hb)
        go_ret
        refine ⟨x, rfl, ?_, HB2.out⟩
        rw [decide_eq_true HX.out.1]
        exact (List.any_eq_true.2 ⟨_, HMem.out, by rw [HH.out]; rfl⟩).symm
    · have c0 : decide (x < (l.length : Int)) = false := decide_eq_false hlt
      have HX := Aside0.mk (show l.take x.toNat = l from List.take_of_length_le (by have := HK.out; omega))
      clear hlt
      go_wp2_with fail
      go_ret
      refine ⟨-1, rfl, ?_, HB.out⟩
      rw [HX.out] at HA
      rw [decide_eq_false (by omega), eq_comm, List.any_eq_false]
      intro y hy
      rw [HA.out y hy]
      simp
set_option maxHeartbeats 2000000 in
theorem cont_calls (A : Option Addr) (cA : Nat) (l : List Int) (g : Nat) (b0 : Bool) (B : Option Addr) (cB : Nat) (m : List Int) (w : World) (hg : w.heap[g]? = some (.cells #[.bool b0, .slice B m.length cB] 26 (0, 0)))
    (hl : Kd.C (Kd.int .i64) w A l.length l) (hlc : l.length ≤ cA) (hln : l.length ≤ 140737488355328)
    (hr : Kd.C (Kd.int .i64) w B m.length m) (hc : m.length ≤ cB) (hm : m.length < 70368744177664) :
    Calls Try.prog 64 #[.slice A l.length cA, .func (.func 65) #[] #[.pointer (some ⟨g, 0, none⟩)]] w fun e w' => e = .returned (.bool (l.any fun c => !hasB b0 m c)) ∧ Below w.heap.size w w' := by
  have H := Aside0.mk (idx_calls A cA l g b0 B cB m w hg hl hlc hln hr hc hm)
  clear hg hl hlc hln hr hc hm
  obtain ⟨r, hr⟩ : ∃ r, r = l.any fun c => !hasB b0 m c := ⟨_, rfl⟩
  rw [← hr]
  have HR := Aside0.mk hr
  clear hr
  go_enter Try.func64, Try.ntmps64
  go_wp2_with (go_at_call 71; refine H.out.mono ?_; rintro e w2 ⟨i, rfl, hi, hb⟩; rw [← HR.out] at hi; have HB := Aside0.mk hb; have HI := Aside0.mk hi; clear hi hb)
  go_ret
  exact ⟨by rw [← HI.out]; rfl, HB.out⟩
def subB (a : Bool) (l : List Int) (b : Bool) (m : List Int) : Bool := canB a l && canB b m && (if a || b then b else l.all fun c => hasB b m c)
def white_subset.f (a0_0 : Bool) (l0_1 : List Int) (a1_0 : Bool) (l1_1 : List Int) : Option Bool := if l0_1.length < 70368744177664 ∧ l1_1.length < 70368744177664 then some (subB a0_0 l0_1 a1_0 l1_1) else none
set_option maxHeartbeats 4000000 in
set_option maxRecDepth 100000 in
theorem white_subset.calls (a0_0 : Bool) (A0 : Option Addr) (c0 : Nat) (l0_1 : List Int) (a1_0 : Bool) (A1 : Option Addr) (c1 : Nat) (l1_1 : List Int) (r : Bool) (w : World) (hr0 : Kd.C (Kd.int .i64) w A0 l0_1.length l0_1) (hc0 : l0_1.length ≤ c0) (hr1 : Kd.C (Kd.int .i64) w A1 l1_1.length l1_1) (hc1 : l1_1.length ≤ c1) (h : white_subset.f a0_0 l0_1 a1_0 l1_1 = some r) :
    Calls Try.prog 58 #[.agg #[.bool a0_0, .slice A0 l0_1.length c0], .agg #[.bool a1_0, .slice A1 l1_1.length c1]] w fun e w' => e = .returned (.bool r) ∧ Below w.heap.size w w' := by
  have hu := Try.underlying26
  unfold white_subset.f at h
  by_cases hn : l0_1.length < 70368744177664 ∧ l1_1.length < 70368744177664
  case neg => rw [if_neg hn] at h; cases h
  rw [if_pos hn] at h
  obtain rfl := Option.some.inj h
  clear h
  have HR0 := Aside0.mk hr0
  have HR1 := Aside0.mk hr1
  have HC0 := Aside0.mk hc0
  have HC1 := Aside0.mk hc1
  have HN0 := Aside0.mk hn.1
  have HN1 := Aside0.mk hn.2
  have HCa := Aside0.mk (can_all a0_0 l0_1 (by omega) (l0_1.length + 1) (by omega))
  have HCb := Aside0.mk (can_all a1_0 l1_1 (by omega) (l1_1.length + 1) (by omega))
  obtain ⟨r, hr⟩ : ∃ r, r = subB a0_0 l0_1 a1_0 l1_1 := ⟨_, rfl⟩
  rw [← hr]
  unfold subB at hr
  clear hr0 hc0 hr1 hc1 hn
  by_cases ha : canB a0_0 l0_1 = true
  case neg =>
    rw [Bool.eq_false_iff.2 ha] at HCa hr
    obtain rfl : r = false := by simpa using hr
    clear ha hr
    go_enter Try.func58, Try.ntmps58
    go_wp2_with (first | ((with_reducible refine gate_dst (N := 2) rfl ?_); refine box_event ?hg (N := 2) ?hd (cs := #[.bool a0_0, .slice A0 l0_1.length c0]) (t := 26) ?hr ?_; (case hd => rfl); (case hg => rfl); (case hr => first | (go_simp; done) | (go_simp; rfl)); intro g2 hg w1 BK hb; have BK2 := Aside0.mk BK; have HB1 := Aside0.mk hb; clear BK hb hg) | ((with_reducible refine gate_dst (N := 3) rfl ?_); refine box_event ?hg (N := 3) ?hd (cs := #[.bool a1_0, .slice A1 l1_1.length c1]) (t := 26) ?hr ?_; (case hd => rfl); (case hg => rfl); (case hr => first | (go_simp; done) | (go_simp; rfl)); intro g3 hg w2 BK hb; have BK3 := Aside0.mk BK; have HB2 := Aside0.mk (below_step HB1.out hb); have BK2b := Aside0.mk (blk_below BK2.out hb); have hnb := Nat.ne_of_lt (blk_lt BK2.out); rw [← hg] at hnb; clear BK hb hg; have hcz0 := (blk_cell BK2b.out 0).trans rfl; have hcz1 := (blk_cell BK2b.out 1).trans rfl; have hdz0 := (blk_cell BK3.out 0).trans rfl; have hdz1 := (blk_cell BK3.out 1).trans rfl) | ((with_reducible refine gate_callee (f := 57) rfl ?_); refine goesL_ (some 7) rfl rfl Try.func57 (by kernel_rfl) rfl #[.agg #[.bool a0_0, .slice A0 l0_1.length c0]] rfl (by (try simp only [List.map_toArray, List.map_cons, List.map_nil]); first | done | rfl) ?_; refine (white_can.calls (l0_1.length + 1) a0_0 A0 c0 l0_1 false _ ?s1 ?s2 HCa.out).mono ?_; (case s1 => exact Kd.C_below HR0.out HB2.out); (case s2 => exact HC0.out); rintro e w3 ⟨rfl, hb⟩; refine ⟨_, rfl, ?_⟩; have HB3 := Aside0.mk (below_step HB2.out hb); have BK2c := Aside0.mk (blk_below BK2b.out hb); have BK3c := Aside0.mk (blk_below BK3.out hb); clear hb hcz0 hcz1 hdz0 hdz1; have hcz0 := (blk_cell BK2c.out 0).trans rfl; have hcz1 := (blk_cell BK2c.out 1).trans rfl; have hdz0 := (blk_cell BK3c.out 0).trans rfl; have hdz1 := (blk_cell BK3c.out 1).trans rfl))
    go_ret
    exact ⟨rfl, HB3.out⟩
  rw [ha] at HCa hr
  clear ha
  by_cases hb : canB a1_0 l1_1 = true
  case neg =>
    rw [Bool.eq_false_iff.2 hb] at HCb hr
    obtain rfl : r = false := by simpa using hr
    clear hb hr
    go_enter Try.func58, Try.ntmps58
    go_wp2_with (first | ((with_reducible refine gate_dst (N := 2) rfl ?_); refine box_event ?hg (N := 2) ?hd (cs := #[.bool a0_0, .slice A0 l0_1.length c0]) (t := 26) ?hr ?_; (case hd => rfl); (case hg => rfl); (case hr => first | (go_simp; done) | (go_simp; rfl)); intro g2 hg w1 BK hb; have BK2 := Aside0.mk BK; have HB1 := Aside0.mk hb; clear BK hb hg) | ((with_reducible refine gate_dst (N := 3) rfl ?_); refine box_event ?hg (N := 3) ?hd (cs := #[.bool a1_0, .slice A1 l1_1.length c1]) (t := 26) ?hr ?_; (case hd => rfl); (case hg => rfl); (case hr => first | (go_simp; done) | (go_simp; rfl)); intro g3 hg w2 BK hb; have BK3 := Aside0.mk BK; have HB2 := Aside0.mk (below_step HB1.out hb); have BK2b := Aside0.mk (blk_below BK2.out hb); have hnb := Nat.ne_of_lt (blk_lt BK2.out); rw [← hg] at hnb; clear BK hb hg; have hcz0 := (blk_cell BK2b.out 0).trans rfl; have hcz1 := (blk_cell BK2b.out 1).trans rfl; have hdz0 := (blk_cell BK3.out 0).trans rfl; have hdz1 := (blk_cell BK3.out 1).trans rfl) | ((with_reducible refine gate_callee (f := 57) rfl ?_); refine goesL_ (some 7) rfl rfl Try.func57 (by kernel_rfl) rfl #[.agg #[.bool a0_0, .slice A0 l0_1.length c0]] rfl (by (try simp only [List.map_toArray, List.map_cons, List.map_nil]); first | done | rfl) ?_; refine (white_can.calls (l0_1.length + 1) a0_0 A0 c0 l0_1 true _ ?s1 ?s2 HCa.out).mono ?_; (case s1 => exact Kd.C_below HR0.out HB2.out); (case s2 => exact HC0.out); rintro e w3 ⟨rfl, hb⟩; refine ⟨_, rfl, ?_⟩; have HB3 := Aside0.mk (below_step HB2.out hb); have BK2c := Aside0.mk (blk_below BK2b.out hb); have BK3c := Aside0.mk (blk_below BK3.out hb); clear hb hcz0 hcz1 hdz0 hdz1; have hcz0 := (blk_cell BK2c.out 0).trans rfl; have hcz1 := (blk_cell BK2c.out 1).trans rfl; have hdz0 := (blk_cell BK3c.out 0).trans rfl; have hdz1 := (blk_cell BK3c.out 1).trans rfl) | ((with_reducible refine gate_callee (f := 57) rfl ?_); refine goesL_ (some 10) rfl rfl Try.func57 (by kernel_rfl) rfl #[.agg #[.bool a1_0, .slice A1 l1_1.length c1]] rfl (by (try simp only [List.map_toArray, List.map_cons, List.map_nil]); first | done | rfl) ?_; refine (white_can.calls (l1_1.length + 1) a1_0 A1 c1 l1_1 false _ ?s1 ?s2 HCb.out).mono ?_; (case s1 => exact Kd.C_below HR1.out HB3.out); (case s2 => exact HC1.out); rintro e w4 ⟨rfl, hb⟩; refine ⟨_, rfl, ?_⟩; have HB4 := Aside0.mk (below_step HB3.out hb); have BK2d := Aside0.mk (blk_below BK2c.out hb); have BK3d := Aside0.mk (blk_below BK3c.out hb); clear hb hcz0 hcz1 hdz0 hdz1; have hcz0 := (blk_cell BK2d.out 0).trans rfl; have hcz1 := (blk_cell BK2d.out 1).trans rfl; have hdz0 := (blk_cell BK3d.out 0).trans rfl; have hdz1 := (blk_cell BK3d.out 1).trans rfl))
    go_ret
    exact ⟨rfl, HB4.out⟩
  rw [hb] at HCb hr
  clear hb
  cases a0_0 with
  | true =>
    cases a1_0 with
    | true =>
      obtain rfl : r = true := by simpa using hr
      clear hr
      go_enter Try.func58, Try.ntmps58
      go_wp2_with (first | ((with_reducible refine gate_dst (N := 2) rfl ?_); refine box_event ?hg (N := 2) ?hd (cs := #[.bool true, .slice A0 l0_1.length c0]) (t := 26) ?hr ?_; (case hd => rfl); (case hg => rfl); (case hr => first | (go_simp; done) | (go_simp; rfl)); intro g2 hg w1 BK hb; have BK2 := Aside0.mk BK; have HB1 := Aside0.mk hb; clear BK hb hg) | ((with_reducible refine gate_dst (N := 3) rfl ?_); refine box_event ?hg (N := 3) ?hd (cs := #[.bool true, .slice A1 l1_1.length c1]) (t := 26) ?hr ?_; (case hd => rfl); (case hg => rfl); (case hr => first | (go_simp; done) | (go_simp; rfl)); intro g3 hg w2 BK hb; have BK3 := Aside0.mk BK; have HB2 := Aside0.mk (below_step HB1.out hb); have BK2b := Aside0.mk (blk_below BK2.out hb); have hnb := Nat.ne_of_lt (blk_lt BK2.out); rw [← hg] at hnb; clear BK hb hg; have hcz0 := (blk_cell BK2b.out 0).trans rfl; have hcz1 := (blk_cell BK2b.out 1).trans rfl; have hdz0 := (blk_cell BK3.out 0).trans rfl; have hdz1 := (blk_cell BK3.out 1).trans rfl) | ((with_reducible refine gate_callee (f := 57) rfl ?_); refine goesL_ (some 7) rfl rfl Try.func57 (by kernel_rfl) rfl #[.agg #[.bool true, .slice A0 l0_1.length c0]] rfl (by (try simp only [List.map_toArray, List.map_cons, List.map_nil]); first | done | rfl) ?_; refine (white_can.calls (l0_1.length + 1) true A0 c0 l0_1 true _ ?s1 ?s2 HCa.out).mono ?_; (case s1 => exact Kd.C_below HR0.out HB2.out); (case s2 => exact HC0.out); rintro e w3 ⟨rfl, hb⟩; refine ⟨_, rfl, ?_⟩; have HB3 := Aside0.mk (below_step HB2.out hb); have BK2c := Aside0.mk (blk_below BK2b.out hb); have BK3c := Aside0.mk (blk_below BK3.out hb); clear hb hcz0 hcz1 hdz0 hdz1; have hcz0 := (blk_cell BK2c.out 0).trans rfl; have hcz1 := (blk_cell BK2c.out 1).trans rfl; have hdz0 := (blk_cell BK3c.out 0).trans rfl; have hdz1 := (blk_cell BK3c.out 1).trans rfl) | ((with_reducible refine gate_callee (f := 57) rfl ?_); refine goesL_ (some 10) rfl rfl Try.func57 (by kernel_rfl) rfl #[.agg #[.bool true, .slice A1 l1_1.length c1]] rfl (by (try simp only [List.map_toArray, List.map_cons, List.map_nil]); first | done | rfl) ?_; refine (white_can.calls (l1_1.length + 1) true A1 c1 l1_1 true _ ?s1 ?s2 HCb.out).mono ?_; (case s1 => exact Kd.C_below HR1.out HB3.out); (case s2 => exact HC1.out); rintro e w4 ⟨rfl, hb⟩; refine ⟨_, rfl, ?_⟩; have HB4 := Aside0.mk (below_step HB3.out hb); have BK2d := Aside0.mk (blk_below BK2c.out hb); have BK3d := Aside0.mk (blk_below BK3c.out hb); clear hb hcz0 hcz1 hdz0 hdz1; have hcz0 := (blk_cell BK2d.out 0).trans rfl; have hcz1 := (blk_cell BK2d.out 1).trans rfl; have hdz0 := (blk_cell BK3d.out 0).trans rfl; have hdz1 := (blk_cell BK3d.out 1).trans rfl))
      go_ret
      exact ⟨rfl, HB4.out⟩
    | false =>
      obtain rfl : r = false := by simpa using hr
      clear hr
      go_enter Try.func58, Try.ntmps58
      go_wp2_with (first | ((with_reducible refine gate_dst (N := 2) rfl ?_); refine box_event ?hg (N := 2) ?hd (cs := #[.bool true, .slice A0 l0_1.length c0]) (t := 26) ?hr ?_; (case hd => rfl); (case hg => rfl); (case hr => first | (go_simp; done) | (go_simp; rfl)); intro g2 hg w1 BK hb; have BK2 := Aside0.mk BK; have HB1 := Aside0.mk hb; clear BK hb hg) | ((with_reducible refine gate_dst (N := 3) rfl ?_); refine box_event ?hg (N := 3) ?hd (cs := #[.bool false, .slice A1 l1_1.length c1]) (t := 26) ?hr ?_; (case hd => rfl); (case hg => rfl); (case hr => first | (go_simp; done) | (go_simp; rfl)); intro g3 hg w2 BK hb; have BK3 := Aside0.mk BK; have HB2 := Aside0.mk (below_step HB1.out hb); have BK2b := Aside0.mk (blk_below BK2.out hb); have hnb := Nat.ne_of_lt (blk_lt BK2.out); rw [← hg] at hnb; clear BK hb hg; have hcz0 := (blk_cell BK2b.out 0).trans rfl; have hcz1 := (blk_cell BK2b.out 1).trans rfl; have hdz0 := (blk_cell BK3.out 0).trans rfl; have hdz1 := (blk_cell BK3.out 1).trans rfl) | ((with_reducible refine gate_callee (f := 57) rfl ?_); refine goesL_ (some 7) rfl rfl Try.func57 (by kernel_rfl) rfl #[.agg #[.bool true, .slice A0 l0_1.length c0]] rfl (by (try simp only [List.map_toArray, List.map_cons, List.map_nil]); first | done | rfl) ?_; refine (white_can.calls (l0_1.length + 1) true A0 c0 l0_1 true _ ?s1 ?s2 HCa.out).mono ?_; (case s1 => exact Kd.C_below HR0.out HB2.out); (case s2 => exact HC0.out); rintro e w3 ⟨rfl, hb⟩; refine ⟨_, rfl, ?_⟩; have HB3 := Aside0.mk (below_step HB2.out hb); have BK2c := Aside0.mk (blk_below BK2b.out hb); have BK3c := Aside0.mk (blk_below BK3.out hb); clear hb hcz0 hcz1 hdz0 hdz1; have hcz0 := (blk_cell BK2c.out 0).trans rfl; have hcz1 := (blk_cell BK2c.out 1).trans rfl; have hdz0 := (blk_cell BK3c.out 0).trans rfl; have hdz1 := (blk_cell BK3c.out 1).trans rfl) | ((with_reducible refine gate_callee (f := 57) rfl ?_); refine goesL_ (some 10) rfl rfl Try.func57 (by kernel_rfl) rfl #[.agg #[.bool false, .slice A1 l1_1.length c1]] rfl (by (try simp only [List.map_toArray, List.map_cons, List.map_nil]); first | done | rfl) ?_; refine (white_can.calls (l1_1.length + 1) false A1 c1 l1_1 true _ ?s1 ?s2 HCb.out).mono ?_; (case s1 => exact Kd.C_below HR1.out HB3.out); (case s2 => exact HC1.out); rintro e w4 ⟨rfl, hb⟩; refine ⟨_, rfl, ?_⟩; have HB4 := Aside0.mk (below_step HB3.out hb); have BK2d := Aside0.mk (blk_below BK2c.out hb); have BK3d := Aside0.mk (blk_below BK3c.out hb); clear hb hcz0 hcz1 hdz0 hdz1; have hcz0 := (blk_cell BK2d.out 0).trans rfl; have hcz1 := (blk_cell BK2d.out 1).trans rfl; have hdz0 := (blk_cell BK3d.out 0).trans rfl; have hdz1 := (blk_cell BK3d.out 1).trans rfl))
      go_ret
      exact ⟨rfl, HB4.out⟩
  | false =>
    cases a1_0 with
    | true =>
      obtain rfl : r = true := by simpa using hr
      clear hr
      go_enter Try.func58, Try.ntmps58
      go_wp2_with (first | ((with_reducible refine gate_dst (N := 2) rfl ?_); refine box_event ?hg (N := 2) ?hd (cs := #[.bool false, .slice A0 l0_1.length c0]) (t := 26) ?hr ?_; (case hd => rfl); (case hg => rfl); (case hr => first | (go_simp; done) | (go_simp; rfl)); intro g2 hg w1 BK hb; have BK2 := Aside0.mk BK; have HB1 := Aside0.mk hb; clear BK hb hg) | ((with_reducible refine gate_dst (N := 3) rfl ?_); refine box_event ?hg (N := 3) ?hd (cs := #[.bool true, .slice A1 l1_1.length c1]) (t := 26) ?hr ?_; (case hd => rfl); (case hg => rfl); (case hr => first | (go_simp; done) | (go_simp; rfl)); intro g3 hg w2 BK hb; have BK3 := Aside0.mk BK; have HB2 := Aside0.mk (below_step HB1.out hb); have BK2b := Aside0.mk (blk_below BK2.out hb); have hnb := Nat.ne_of_lt (blk_lt BK2.out); rw [← hg] at hnb; clear BK hb hg; have hcz0 := (blk_cell BK2b.out 0).trans rfl; have hcz1 := (blk_cell BK2b.out 1).trans rfl; have hdz0 := (blk_cell BK3.out 0).trans rfl; have hdz1 := (blk_cell BK3.out 1).trans rfl) | ((with_reducible refine gate_callee (f := 57) rfl ?_); refine goesL_ (some 7) rfl rfl Try.func57 (by kernel_rfl) rfl #[.agg #[.bool false, .slice A0 l0_1.length c0]] rfl (by (try simp only [List.map_toArray, List.map_cons, List.map_nil]); first | done | rfl) ?_; refine (white_can.calls (l0_1.length + 1) false A0 c0 l0_1 true _ ?s1 ?s2 HCa.out).mono ?_; (case s1 => exact Kd.C_below HR0.out HB2.out); (case s2 => exact HC0.out); rintro e w3 ⟨rfl, hb⟩; refine ⟨_, rfl, ?_⟩; have HB3 := Aside0.mk (below_step HB2.out hb); have BK2c := Aside0.mk (blk_below BK2b.out hb); have BK3c := Aside0.mk (blk_below BK3.out hb); clear hb hcz0 hcz1 hdz0 hdz1; have hcz0 := (blk_cell BK2c.out 0).trans rfl; have hcz1 := (blk_cell BK2c.out 1).trans rfl; have hdz0 := (blk_cell BK3c.out 0).trans rfl; have hdz1 := (blk_cell BK3c.out 1).trans rfl) | ((with_reducible refine gate_callee (f := 57) rfl ?_); refine goesL_ (some 10) rfl rfl Try.func57 (by kernel_rfl) rfl #[.agg #[.bool true, .slice A1 l1_1.length c1]] rfl (by (try simp only [List.map_toArray, List.map_cons, List.map_nil]); first | done | rfl) ?_; refine (white_can.calls (l1_1.length + 1) true A1 c1 l1_1 true _ ?s1 ?s2 HCb.out).mono ?_; (case s1 => exact Kd.C_below HR1.out HB3.out); (case s2 => exact HC1.out); rintro e w4 ⟨rfl, hb⟩; refine ⟨_, rfl, ?_⟩; have HB4 := Aside0.mk (below_step HB3.out hb); have BK2d := Aside0.mk (blk_below BK2c.out hb); have BK3d := Aside0.mk (blk_below BK3c.out hb); clear hb hcz0 hcz1 hdz0 hdz1; have hcz0 := (blk_cell BK2d.out 0).trans rfl; have hcz1 := (blk_cell BK2d.out 1).trans rfl; have hdz0 := (blk_cell BK3d.out 0).trans rfl; have hdz1 := (blk_cell BK3d.out 1).trans rfl))
      go_ret
      exact ⟨rfl, HB4.out⟩
    | false =>
      have HF := Aside0.mk (show r = !(l0_1.any fun c => !hasB false l1_1 c) by rw [hr, List.all_eq_not_any_not]; simp)
      clear hr
      go_enter Try.func58, Try.ntmps58
      go_wp2_with (first | ((with_reducible refine gate_dst (N := 2) rfl ?_); refine box_event ?hg (N := 2) ?hd (cs := #[.bool false, .slice A0 l0_1.length c0]) (t := 26) ?hr ?_; (case hd => rfl); (case hg => rfl); (case hr => first | (go_simp; done) | (go_simp; rfl)); intro g2 hg w1 BK hb; have BK2 := Aside0.mk BK; have HB1 := Aside0.mk hb; clear BK hb hg) | ((with_reducible refine gate_dst (N := 3) rfl ?_); refine box_event ?hg (N := 3) ?hd (cs := #[.bool false, .slice A1 l1_1.length c1]) (t := 26) ?hr ?_; (case hd => rfl); (case hg => rfl); (case hr => first | (go_simp; done) | (go_simp; rfl)); intro g3 hg w2 BK hb; have BK3 := Aside0.mk BK; have HB2 := Aside0.mk (below_step HB1.out hb); have BK2b := Aside0.mk (blk_below BK2.out hb); have hnb := Nat.ne_of_lt (blk_lt BK2.out); rw [← hg] at hnb; clear BK hb hg; have hcz0 := (blk_cell BK2b.out 0).trans rfl; have hcz1 := (blk_cell BK2b.out 1).trans rfl; have hdz0 := (blk_cell BK3.out 0).trans rfl; have hdz1 := (blk_cell BK3.out 1).trans rfl) | ((with_reducible refine gate_callee (f := 57) rfl ?_); refine goesL_ (some 7) rfl rfl Try.func57 (by kernel_rfl) rfl #[.agg #[.bool false, .slice A0 l0_1.length c0]] rfl (by (try simp only [List.map_toArray, List.map_cons, List.map_nil]); first | done | rfl) ?_; refine (white_can.calls (l0_1.length + 1) false A0 c0 l0_1 true _ ?s1 ?s2 HCa.out).mono ?_; (case s1 => exact Kd.C_below HR0.out HB2.out); (case s2 => exact HC0.out); rintro e w3 ⟨rfl, hb⟩; refine ⟨_, rfl, ?_⟩; have HB3 := Aside0.mk (below_step HB2.out hb); have BK2c := Aside0.mk (blk_below BK2b.out hb); have BK3c := Aside0.mk (blk_below BK3.out hb); clear hb hcz0 hcz1 hdz0 hdz1; have hcz0 := (blk_cell BK2c.out 0).trans rfl; have hcz1 := (blk_cell BK2c.out 1).trans rfl; have hdz0 := (blk_cell BK3c.out 0).trans rfl; have hdz1 := (blk_cell BK3c.out 1).trans rfl) | ((with_reducible refine gate_callee (f := 57) rfl ?_); refine goesL_ (some 10) rfl rfl Try.func57 (by kernel_rfl) rfl #[.agg #[.bool false, .slice A1 l1_1.length c1]] rfl (by (try simp only [List.map_toArray, List.map_cons, List.map_nil]); first | done | rfl) ?_; refine (white_can.calls (l1_1.length + 1) false A1 c1 l1_1 true _ ?s1 ?s2 HCb.out).mono ?_; (case s1 => exact Kd.C_below HR1.out HB3.out); (case s2 => exact HC1.out); rintro e w4 ⟨rfl, hb⟩; refine ⟨_, rfl, ?_⟩; have HB4 := Aside0.mk (below_step HB3.out hb); have BK2d := Aside0.mk (blk_below BK2c.out hb); have BK3d := Aside0.mk (blk_below BK3c.out hb); clear hb hcz0 hcz1 hdz0 hdz1; have hcz0 := (blk_cell BK2d.out 0).trans rfl; have hcz1 := (blk_cell BK2d.out 1).trans rfl; have hdz0 := (blk_cell BK3d.out 0).trans rfl; have hdz1 := (blk_cell BK3d.out 1).trans rfl) | ((with_reducible refine gate_callee (f := 64) rfl ?_); refine goesL_ (some 24) rfl rfl Try.func64 (by kernel_rfl) rfl #[.slice A0 l0_1.length c0, .func (.func 65) #[] #[.pointer (some ⟨g3, 0, none⟩)]] rfl (by (try simp only [List.map_toArray, List.map_cons, List.map_nil]); first | done | rfl) ?_; refine (cont_calls A0 c0 l0_1 g3 false A1 c1 l1_1 _ ?s0 ?s1 HC0.out ?s2 ?s3 HC1.out HN1.out).mono ?_; (case s0 => exact BK3d.out); (case s1 => exact Kd.C_below HR0.out HB4.out); (case s2 => have := HN0.out; omega); (case s3 => exact Kd.C_below HR1.out HB4.out); rintro e w5 ⟨rfl, hb⟩; refine ⟨_, rfl, ?_⟩; have HB5 := Aside0.mk (below_step HB4.out hb); clear hb))
      go_ret
      exact ⟨by rw [HF.out]; rfl, HB5.out⟩
end Go.Proofs.Ytilfalpfanaanaa.PA

namespace Go.Proofs.Ytilfalpfanaanaa.PA
open Go.RowKit Go.Proofs.YtilfalpfanaanaaW.PrintWords Go.Proofs.YtilfalpfanaanaaW.PrintLast Go.Proofs.YtilfalpfanaanaaW.PrintMore
attribute [local go_sem] max2_int min2_int max_two min_two max_three min_three max_four min_four   -- for this text's walks alone
def white_Limit.f (k : Nat) (a0_0 : Bool) (l0_1 : List Int) (l1 : List Int) : Option (Bool × List Int × Int) := (white_made.f l1).bind fun bt208 => (if bt208.2.2 = 0 then ((white_can.f k a0_0 l0_1).bind fun t214 => (if t214 = true then ((white_subset.f bt208.1 bt208.2.1 a0_0 l0_1).bind fun t215 => (if t215 = true then (some (bt208.1, bt208.2.1, 0)) else (some (false, ([] : List Int), 93)))) else (some (false, ([] : List Int), 22)))) else (some (false, ([] : List Int), bt208.2.2)))
set_option maxHeartbeats 8000000 in
set_option maxRecDepth 100000 in
theorem white_Limit.calls (k : Nat) (a0_0 : Bool) (A0_1 : Option Addr) (c0_1 : Nat) (l0_1 : List Int) (A1 : Option Addr) (c1 : Nat) (l1 : List Int) (r1 : Bool) (r2 : List Int) (r3 : Int) (w : World) (hr0_1 : Kd.C (Kd.int .i64) w A0_1 l0_1.length l0_1) (hc0_1 : l0_1.length ≤ c0_1) (hr1 : Kd.C (Kd.int .i64) w A1 l1.length l1) (hc1 : l1.length ≤ c1) (h : white_Limit.f k a0_0 l0_1 l1 = some (r1, r2, r3)) :
    Calls Try.prog 39 #[.agg #[.bool a0_0, .slice A0_1 l0_1.length c0_1], .slice A1 l1.length c1] w fun e w' => ∃ v1_ : Value, e = .returned (.tuple #[.agg #[.bool r1, v1_], .int .i64 r3]) ∧ Kd.R (Kd.int .i64) 3 w' w.heap.size (fun _ => True) v1_ r2 ∧ Below w.heap.size w w' := by
  have hu26 := Try.underlying26
  have HR0_1 := Aside0.mk hr0_1
  have HC0_1 := Aside0.mk hc0_1
  clear hr0_1 hc0_1
  have HR1 := Aside0.mk hr1
  have HC1 := Aside0.mk hc1
  clear hr1 hc1
  have HB := Aside0.mk (Below.refl w.heap.size w)
  have H : ((white_made.f l1).bind fun bt208 => (if bt208.2.2 = 0 then ((white_can.f k a0_0 l0_1).bind fun t214 => (if t214 = true then ((white_subset.f bt208.1 bt208.2.1 a0_0 l0_1).bind fun t215 => (if t215 = true then (some (bt208.1, bt208.2.1, 0)) else (some (false, ([] : List Int), 93)))) else (some (false, ([] : List Int), 22)))) else (some (false, ([] : List Int), bt208.2.2)))) = some (r1, r2, r3) := h
  clear h
  replace H := Option.bind_eq_some_iff.mp H
  obtain ⟨⟨t208, t209, t212⟩, A30, H⟩ := H
  replace H : (if t212 = 0 then ((white_can.f k a0_0 l0_1).bind fun t214 => (if t214 = true then ((white_subset.f t208 t209 a0_0 l0_1).bind fun t215 => (if t215 = true then (some (t208, t209, 0)) else (some (false, ([] : List Int), 93)))) else (some (false, ([] : List Int), 22)))) else (some (false, ([] : List Int), t212))) = some (r1, r2, r3) := H
  have A3 := Aside0.mk A30
  clear A30
  by_cases c4 : t212 = 0
  · rw [if_pos c4] at H
    have c4b0 : (t212 == 0) = true := beq_iff_eq.mpr c4
    have c4b1 : (t212 != 0) = false := bne_eq_false_iff_eq.mpr c4
    clear c4
    replace H := Option.bind_eq_some_iff.mp H
    obtain ⟨t214, A50, H⟩ := H
    replace H : (if t214 = true then ((white_subset.f t208 t209 a0_0 l0_1).bind fun t215 => (if t215 = true then (some (t208, t209, 0)) else (some (false, ([] : List Int), 93)))) else (some (false, ([] : List Int), 22))) = some (r1, r2, r3) := H
    have A5 := Aside0.mk A50
    clear A50
    by_cases c6 : t214 = true
    · subst c6
      have H1 : ((white_subset.f t208 t209 a0_0 l0_1).bind fun t215 => (if t215 = true then (some (t208, t209, 0)) else (some (false, ([] : List Int), 93)))) = some (r1, r2, r3) := by rw [if_pos rfl] at H; exact H
      clear H
      have H := H1
      clear H1
      replace H := Option.bind_eq_some_iff.mp H
      obtain ⟨t215, A70, H⟩ := H
      replace H : (if t215 = true then (some (t208, t209, 0)) else (some (false, ([] : List Int), 93))) = some (r1, r2, r3) := H
      have A7 := Aside0.mk A70
      clear A70
      by_cases c8 : t215 = true
      · subst c8
        have H1 : (some (t208, t209, 0)) = some (r1, r2, r3) := by rw [if_pos rfl] at H; exact H
        clear H
        have H := H1
        clear H1
        simp only [Option.some.injEq, Prod.mk.injEq] at H
        obtain ⟨rfl, rfl, rfl⟩ := H
        go_enter Try.func39, Try.ntmps39
        go_wp2_with (first | ((with_reducible refine gate_dst (N := 2) rfl ?_); refine box_event ?hg (N := 2) ?hd (cs := #[.bool a0_0, .slice A0_1 l0_1.length c0_1]) (t := 26) ?hr ?_; (case hd => rfl); (case hg => rfl); (case hr => first | (go_simp; done) | (go_simp; rfl)); intro gb206 hg w9 hbox hb; have n0_ := Aside0.mk (below_step (by repeat (first | (with_reducible first | exact HB.out | apply below_alloc | apply pw_below_drewN | apply below_drew1) | exact HB.out)) hb); have n1_ := Aside0.mk (hbox); have n2_ := Aside0.mk ((by rw [hg]; exact (below_size (by repeat (first | (with_reducible first | exact HB.out | apply below_alloc | apply pw_below_drewN | apply below_drew1) | exact HB.out))) : w.heap.size ≤ gb206)); have n3_ := Aside0.mk ((by rw [hg]; exact (below_size (by repeat (first | (with_reducible first | exact HB.out | apply below_alloc | apply pw_below_drewN | apply below_drew1) | exact HB.out))) : w.heap.size ≤ gb206)); clear HB; have HB := n0_; have BK206 := n1_; have GW206 := n2_; have GE206 := n3_; clear n0_ n1_ n2_ n3_; clear hb hbox hg) | ((with_reducible refine gate_dst (N := 4) rfl ?_); refine box_event ?hg (N := 4) ?hd (cs := #[.bool false, .slice none 0 0]) (t := 26) ?hr ?_; (case hd => rfl); (case hg => rfl); (case hr => first | (go_simp; done) | (go_simp; rfl)); intro gb207 hg w10 hbox hb; have n0_ := Aside0.mk (blk_below (g := gb206) (o := .cells #[.bool a0_0, .slice A0_1 l0_1.length c0_1] 26 (0, 0)) (by (with_reducible repeat (first | refine blk_drewN ?_ _ | refine blk_drew ?_ | refine blk_alloc ?_ _)); exact BK206.out) hb); have n1_ := Aside0.mk (below_step (by repeat (first | (with_reducible first | exact HB.out | apply below_alloc | apply pw_below_drewN | apply below_drew1 | refine below_set ?_ GE206.out) | exact HB.out)) hb); have n2_ := Aside0.mk (hbox); have n3_ := Aside0.mk ((by rw [hg]; exact (below_size (by repeat (first | (with_reducible first | exact HB.out | apply below_alloc | apply pw_below_drewN | apply below_drew1 | refine below_set ?_ GE206.out) | exact HB.out))) : w.heap.size ≤ gb207)); have n4_ := Aside0.mk ((by rw [hg]; exact (below_size (by repeat (first | (with_reducible first | exact HB.out | apply below_alloc | apply pw_below_drewN | apply below_drew1 | refine below_set ?_ GE206.out) | exact HB.out))) : w.heap.size ≤ gb207)); have n5_ := Aside0.mk ((by rw [hg]; exact Nat.ne_of_lt (blk_lt (g := gb206) (o := .cells #[.bool a0_0, .slice A0_1 l0_1.length c0_1] 26 (0, 0)) (by (with_reducible repeat (first | refine blk_drewN ?_ _ | refine blk_drew ?_ | refine blk_alloc ?_ _)); exact BK206.out)) : gb206 ≠ gb207)); have n6_ := Aside0.mk ((by rw [hg]; exact Nat.ne_of_gt (blk_lt (g := gb206) (o := .cells #[.bool a0_0, .slice A0_1 l0_1.length c0_1] 26 (0, 0)) (by (with_reducible repeat (first | refine blk_drewN ?_ _ | refine blk_drew ?_ | refine blk_alloc ?_ _)); exact BK206.out)) : gb207 ≠ gb206)); clear BK206; clear HB; have BK206 := n0_; have HB := n1_; have BK207 := n2_; have GW207 := n3_; have GE207 := n4_; have NB206_207 := n5_; have NB207_206 := n6_; clear n0_ n1_ n2_ n3_ n4_ n5_ n6_; clear hb hbox hg) | ((with_reducible refine gate_callee (f := 56) rfl ?_); refine goesL_ (some 10) rfl rfl Try.func56 (by kernel_rfl) rfl #[.slice A1 l1.length c1] rfl (by (try simp only [List.map_toArray, List.map_cons, List.map_nil]); first | done | rfl | (simp only [List.length_drop, List.length_take]; rfl)) ?_; (with_reducible refine (white_made.calls _ _ l1 t208 t209 t212 _ ?side1 ?side2 A3.out).mono ?_); (case side1 => repeat (first | exact (Kd.C_below HR1.out HB.out) | (with_reducible refine Kd.C_alloc ?_ _) | (with_reducible refine Kd.C_drewN ?_ _) | (with_reducible refine Kd.C_drew ?_))); (case side2 => exact HC1.out); rintro e w11 ⟨v210, rfl, ho0, hb⟩; refine ⟨_, rfl, ?_⟩; have n0_ := Aside0.mk (Kd.R_lower ho0 (below_size (by repeat (first | (with_reducible first | exact HB.out | apply below_alloc | apply pw_below_drewN | apply below_drew1 | refine below_set ?_ GE206.out | refine below_set ?_ GE207.out) | exact HB.out)))); have n1_ := Aside0.mk (blk_below (g := gb206) (o := .cells #[.bool a0_0, .slice A0_1 l0_1.length c0_1] 26 (0, 0)) (by (with_reducible repeat (first | refine blk_drewN ?_ _ | refine blk_drew ?_ | refine blk_alloc ?_ _)); exact BK206.out) hb); have n2_ := Aside0.mk (blk_below (g := gb207) (o := .cells #[.bool false, .slice none 0 0] 26 (0, 0)) (by (with_reducible repeat (first | refine blk_drewN ?_ _ | refine blk_drew ?_ | refine blk_alloc ?_ _)); exact BK207.out) hb); have n3_ := Aside0.mk (below_step (by repeat (first | (with_reducible first | exact HB.out | apply below_alloc | apply pw_below_drewN | apply below_drew1 | refine below_set ?_ GE206.out | refine below_set ?_ GE207.out) | exact HB.out)) hb); clear BK206; clear BK207; clear HB; have HO211 := n0_; have BK206 := n1_; have BK207 := n2_; have HB := n3_; clear n0_ n1_ n2_ n3_; (try clear hb); (try clear hb2); (try clear hk); (try clear hi); (try clear ho0)) | ((with_reducible refine gate_dst (N := 6) rfl ?_); refine box_event ?hg (N := 6) ?hd (cs := #[.bool false, .slice none 0 0]) (t := 26) ?hr ?_; (case hd => rfl); (case hg => rfl); (case hr => first | (go_simp; done) | (go_simp; rfl)); intro gb213 hg w12 hbox hb; have n0_ := Aside0.mk (Kd.R_below (by (with_reducible repeat (first | apply Kd.R_alloc | apply Kd.R_drewN | apply Kd.R_drew)); exact HO211.out) hb); have n1_ := Aside0.mk (blk_below (g := gb206) (o := .cells #[.bool a0_0, .slice A0_1 l0_1.length c0_1] 26 (0, 0)) (by (with_reducible repeat (first | refine blk_drewN ?_ _ | refine blk_drew ?_ | refine blk_alloc ?_ _)); exact BK206.out) hb); have n2_ := Aside0.mk (blk_below (g := gb207) (o := .cells #[.bool false, .slice none 0 0] 26 (0, 0)) (by (with_reducible repeat (first | refine blk_drewN ?_ _ | refine blk_drew ?_ | refine blk_alloc ?_ _)); exact BK207.out) hb); have n3_ := Aside0.mk (below_step (by repeat (first | (with_reducible first | exact HB.out | apply below_alloc | apply pw_below_drewN | apply below_drew1 | refine below_set ?_ GE206.out | refine below_set ?_ GE207.out) | exact HB.out)) hb); have n4_ := Aside0.mk (hbox); have n5_ := Aside0.mk ((by rw [hg]; exact (below_size (by repeat (first | (with_reducible first | exact HB.out | apply below_alloc | apply pw_below_drewN | apply below_drew1 | refine below_set ?_ GE206.out | refine below_set ?_ GE207.out) | exact HB.out))) : w.heap.size ≤ gb213)); have n6_ := Aside0.mk ((by rw [hg]; exact (below_size (by repeat (first | (with_reducible first | exact HB.out | apply below_alloc | apply pw_below_drewN | apply below_drew1 | refine below_set ?_ GE206.out | refine below_set ?_ GE207.out) | exact HB.out))) : w.heap.size ≤ gb213)); have n7_ := Aside0.mk ((by rw [hg]; exact Nat.ne_of_lt (blk_lt (g := gb206) (o := .cells #[.bool a0_0, .slice A0_1 l0_1.length c0_1] 26 (0, 0)) (by (with_reducible repeat (first | refine blk_drewN ?_ _ | refine blk_drew ?_ | refine blk_alloc ?_ _)); exact BK206.out)) : gb206 ≠ gb213)); have n8_ := Aside0.mk ((by rw [hg]; exact Nat.ne_of_gt (blk_lt (g := gb206) (o := .cells #[.bool a0_0, .slice A0_1 l0_1.length c0_1] 26 (0, 0)) (by (with_reducible repeat (first | refine blk_drewN ?_ _ | refine blk_drew ?_ | refine blk_alloc ?_ _)); exact BK206.out)) : gb213 ≠ gb206)); have n9_ := Aside0.mk ((by rw [hg]; exact Nat.ne_of_lt (blk_lt (g := gb207) (o := .cells #[.bool false, .slice none 0 0] 26 (0, 0)) (by (with_reducible repeat (first | refine blk_drewN ?_ _ | refine blk_drew ?_ | refine blk_alloc ?_ _)); exact BK207.out)) : gb207 ≠ gb213)); have n10_ := Aside0.mk ((by rw [hg]; exact Nat.ne_of_gt (blk_lt (g := gb207) (o := .cells #[.bool false, .slice none 0 0] 26 (0, 0)) (by (with_reducible repeat (first | refine blk_drewN ?_ _ | refine blk_drew ?_ | refine blk_alloc ?_ _)); exact BK207.out)) : gb213 ≠ gb207)); clear HO211; clear BK206; clear BK207; clear HB; have HO211 := n0_; have BK206 := n1_; have BK207 := n2_; have HB := n3_; have BK213 := n4_; have GW213 := n5_; have GE213 := n6_; have NB206_213 := n7_; have NB213_206 := n8_; have NB207_213 := n9_; have NB213_207 := n10_; clear n0_ n1_ n2_ n3_ n4_ n5_ n6_ n7_ n8_ n9_ n10_; clear hb hbox hg; have hnb13 := NB213_206.out; have hnc13 := NB206_213.out; have hnb14 := NB213_207.out; have hnc14 := NB207_213.out; have hcz15_0 : w12.cell? ⟨gb213, 0, none⟩ = some (.bool false) := (blk_cell BK213.out 0).trans rfl; have hcz15_1 : w12.cell? ⟨gb213, 1, none⟩ = some (.slice none 0 0) := (blk_cell BK213.out 1).trans rfl; have hfz15_0 := blk_frozen BK213.out 0; have hfz15_1 := blk_frozen BK213.out 1; obtain ⟨Ao16, co16, eo16⟩ := Kd.R_slice HO211.out; subst eo16; have hnb17 := NB206_207.out; have hnc17 := NB207_206.out; have hcz18_0 : w12.cell? ⟨gb206, 0, none⟩ = some (.bool a0_0) := (blk_cell BK206.out 0).trans rfl; have hcz18_1 : w12.cell? ⟨gb206, 1, none⟩ = some (.slice A0_1 l0_1.length c0_1) := (blk_cell BK206.out 1).trans rfl; have hfz18_0 := blk_frozen BK206.out 0; have hfz18_1 := blk_frozen BK206.out 1) | ((with_reducible refine gate_callee (f := 57) rfl ?_); refine goesL_ (some 20) rfl rfl Try.func57 (by kernel_rfl) rfl #[.agg #[.bool a0_0, .slice A0_1 l0_1.length c0_1]] rfl (by (try simp only [List.map_toArray, List.map_cons, List.map_nil]); first | done | rfl | (simp only [List.length_drop, List.length_take]; rfl)) ?_; (with_reducible refine (white_can.calls k a0_0 _ _ l0_1 true _ ?side1 ?side2 A5.out).mono ?_); (case side1 => exact Kd.C_below HR0_1.out (by repeat (first | (with_reducible first | exact HB.out | apply below_alloc | apply pw_below_drewN | apply below_drew1 | refine below_set ?_ GE206.out | refine below_set ?_ GE207.out | refine below_set ?_ GE213.out) | exact HB.out))); (case side2 => exact HC0_1.out); rintro e w19 ⟨rfl, hb⟩; refine ⟨_, rfl, ?_⟩; have n0_ := Aside0.mk (Kd.R_below (by (with_reducible repeat (first | apply Kd.R_alloc | apply Kd.R_drewN | apply Kd.R_drew)); exact (Kd.R_mono (Kd.R_far (p := ⟨gb213, 1, none⟩) (Kd.R_far (p := ⟨gb213, 0, none⟩) (Kd.R_types HO211.out BK213.out (by decide)) (fun _ hk => hk.2) (.bool t208)) (fun _ hk => hk.2) (.slice Ao16 t209.length co16)) (fun _ h_ => h_.1))) hb); have n1_ := Aside0.mk (blk_below (g := gb206) (o := .cells #[.bool a0_0, .slice A0_1 l0_1.length c0_1] 26 (0, 0)) (by (with_reducible repeat (first | refine blk_drewN ?_ _ | refine blk_drew ?_ | refine blk_alloc ?_ _)); refine blk_far ?_ NB206_213.out _; (with_reducible repeat (first | refine blk_drewN ?_ _ | refine blk_drew ?_ | refine blk_alloc ?_ _)); refine blk_far ?_ NB206_213.out _; (with_reducible repeat (first | refine blk_drewN ?_ _ | refine blk_drew ?_ | refine blk_alloc ?_ _)); exact BK206.out) hb); have n2_ := Aside0.mk (blk_below (g := gb207) (o := .cells #[.bool false, .slice none 0 0] 26 (0, 0)) (by (with_reducible repeat (first | refine blk_drewN ?_ _ | refine blk_drew ?_ | refine blk_alloc ?_ _)); refine blk_far ?_ NB207_213.out _; (with_reducible repeat (first | refine blk_drewN ?_ _ | refine blk_drew ?_ | refine blk_alloc ?_ _)); refine blk_far ?_ NB207_213.out _; (with_reducible repeat (first | refine blk_drewN ?_ _ | refine blk_drew ?_ | refine blk_alloc ?_ _)); exact BK207.out) hb); have n3_ := Aside0.mk (blk_below (g := gb213) (o := .cells #[.bool t208, .slice Ao16 t209.length co16] 26 (0, 0)) (by (with_reducible repeat (first | refine blk_drewN ?_ _ | refine blk_drew ?_ | refine blk_alloc ?_ _)); refine blk_put (cs := #[.bool t208, .slice none 0 0]) ?_ 1 _ rfl; (with_reducible repeat (first | refine blk_drewN ?_ _ | refine blk_drew ?_ | refine blk_alloc ?_ _)); refine blk_put (cs := #[.bool false, .slice none 0 0]) ?_ 0 _ rfl; (with_reducible repeat (first | refine blk_drewN ?_ _ | refine blk_drew ?_ | refine blk_alloc ?_ _)); exact BK213.out) hb); have n4_ := Aside0.mk (below_step (by repeat (first | (with_reducible first | exact HB.out | apply below_alloc | apply pw_below_drewN | apply below_drew1 | refine below_set ?_ GE206.out | refine below_set ?_ GE207.out | refine below_set ?_ GE213.out) | exact HB.out)) hb); clear HO211; clear BK206; clear BK207; clear BK213; clear HB; have HO211 := n0_; have BK206 := n1_; have BK207 := n2_; have BK213 := n3_; have HB := n4_; clear n0_ n1_ n2_ n3_ n4_; (try clear hb); (try clear hb2); (try clear hk); (try clear hi); have hcz20_0 : w19.cell? ⟨gb213, 0, none⟩ = some (.bool t208) := (blk_cell BK213.out 0).trans rfl; have hcz20_1 : w19.cell? ⟨gb213, 1, none⟩ = some (.slice Ao16 t209.length co16) := (blk_cell BK213.out 1).trans rfl; have hfz20_0 := blk_frozen BK213.out 0; have hfz20_1 := blk_frozen BK213.out 1; have hcz21_0 : w19.cell? ⟨gb206, 0, none⟩ = some (.bool a0_0) := (blk_cell BK206.out 0).trans rfl; have hcz21_1 : w19.cell? ⟨gb206, 1, none⟩ = some (.slice A0_1 l0_1.length c0_1) := (blk_cell BK206.out 1).trans rfl; have hfz21_0 := blk_frozen BK206.out 0; have hfz21_1 := blk_frozen BK206.out 1) | ((with_reducible refine gate_callee (f := 58) rfl ?_); refine goesL_ (some 26) rfl rfl Try.func58 (by kernel_rfl) rfl #[.agg #[.bool t208, .slice Ao16 t209.length co16], .agg #[.bool a0_0, .slice A0_1 l0_1.length c0_1]] rfl (by (try simp only [List.map_toArray, List.map_cons, List.map_nil]); first | done | rfl | (simp only [List.length_drop, List.length_take]; rfl)) ?_; (with_reducible refine (white_subset.calls t208 _ _ t209 a0_0 _ _ l0_1 true _ ?side1 ?side2 ?side3 ?side4 A7.out).mono ?_); (case side1 => repeat (first | exact (Kd.R_reads' HO211.out).2.2 | (with_reducible refine Kd.C_alloc ?_ _) | (with_reducible refine Kd.C_drewN ?_ _) | (with_reducible refine Kd.C_drew ?_))); (case side2 => exact (Kd.R_reads' HO211.out).2.1); (case side3 => repeat (first | exact (Kd.C_below HR0_1.out HB.out) | (with_reducible refine Kd.C_alloc ?_ _) | (with_reducible refine Kd.C_drewN ?_ _) | (with_reducible refine Kd.C_drew ?_))); (case side4 => exact HC0_1.out); rintro e w22 ⟨rfl, hb⟩; refine ⟨_, rfl, ?_⟩; have n0_ := Aside0.mk (Kd.R_below (by (with_reducible repeat (first | apply Kd.R_alloc | apply Kd.R_drewN | apply Kd.R_drew)); exact HO211.out) hb); have n1_ := Aside0.mk (blk_below (g := gb206) (o := .cells #[.bool a0_0, .slice A0_1 l0_1.length c0_1] 26 (0, 0)) (by (with_reducible repeat (first | refine blk_drewN ?_ _ | refine blk_drew ?_ | refine blk_alloc ?_ _)); exact BK206.out) hb); have n2_ := Aside0.mk (blk_below (g := gb207) (o := .cells #[.bool false, .slice none 0 0] 26 (0, 0)) (by (with_reducible repeat (first | refine blk_drewN ?_ _ | refine blk_drew ?_ | refine blk_alloc ?_ _)); exact BK207.out) hb); have n3_ := Aside0.mk (blk_below (g := gb213) (o := .cells #[.bool t208, .slice Ao16 t209.length co16] 26 (0, 0)) (by (with_reducible repeat (first | refine blk_drewN ?_ _ | refine blk_drew ?_ | refine blk_alloc ?_ _)); exact BK213.out) hb); have n4_ := Aside0.mk (below_step (by repeat (first | (with_reducible first | exact HB.out | apply below_alloc | apply pw_below_drewN | apply below_drew1 | refine below_set ?_ GE206.out | refine below_set ?_ GE207.out | refine below_set ?_ GE213.out) | exact HB.out)) hb); clear HO211; clear BK206; clear BK207; clear BK213; clear HB; have HO211 := n0_; have BK206 := n1_; have BK207 := n2_; have BK213 := n3_; have HB := n4_; clear n0_ n1_ n2_ n3_ n4_; (try clear hb); (try clear hb2); (try clear hk); (try clear hi); have hcz23_0 : w22.cell? ⟨gb213, 0, none⟩ = some (.bool t208) := (blk_cell BK213.out 0).trans rfl; have hcz23_1 : w22.cell? ⟨gb213, 1, none⟩ = some (.slice Ao16 t209.length co16) := (blk_cell BK213.out 1).trans rfl; have hfz23_0 := blk_frozen BK213.out 0; have hfz23_1 := blk_frozen BK213.out 1; have hcz24_0 : w22.cell? ⟨gb207, 0, none⟩ = some (.bool false) := (blk_cell BK207.out 0).trans rfl; have hcz24_1 : w22.cell? ⟨gb207, 1, none⟩ = some (.slice none 0 0) := (blk_cell BK207.out 1).trans rfl; have hfz24_0 := blk_frozen BK207.out 0; have hfz24_1 := blk_frozen BK207.out 1))
        refine bodyPost_ret (results_ct rfl _ _ gb207 26 #[.bool t208, .slice Ao16 t209.length co16] (0, 0) _ rfl (by (with_reducible repeat (first | refine blk_drewN ?_ _ | refine blk_drew ?_ | refine blk_alloc ?_ _)); refine blk_put (cs := #[.bool t208, .slice none 0 0]) ?_ 1 _ rfl; (with_reducible repeat (first | refine blk_drewN ?_ _ | refine blk_drew ?_ | refine blk_alloc ?_ _)); refine blk_put (cs := #[.bool false, .slice none 0 0]) ?_ 0 _ rfl; (with_reducible repeat (first | refine blk_drewN ?_ _ | refine blk_drew ?_ | refine blk_alloc ?_ _)); exact BK207.out) Try.underlying26 rfl (by kernel_rfl)) rfl ?_
        exact ⟨_, by first | rfl | (simp [errW_none, errW_some] <;> rfl) | (simp [*, errW_none, errW_some] <;> rfl), by (with_reducible repeat (first | apply Kd.R_alloc | apply Kd.R_drewN | apply Kd.R_drew)); exact Kd.R_mono (Kd.R_far (p := ⟨gb207, 1, none⟩) (Kd.R_far (p := ⟨gb207, 0, none⟩) (Kd.R_types HO211.out BK207.out (by decide)) (fun _ hk => hk.2) (.bool t208)) (fun _ hk => hk.2) (.slice Ao16 t209.length co16)) (fun _ hk => trivial), by repeat (first | (with_reducible first | exact HB.out | apply below_alloc | apply pw_below_drewN | apply below_drew1 | refine below_set ?_ GE206.out | refine below_set ?_ GE207.out | refine below_set ?_ GE213.out) | exact HB.out)⟩
      · replace c8 := Bool.eq_false_iff.mpr c8
        subst c8
        have H1 : (some (false, ([] : List Int), 93)) = some (r1, r2, r3) := by rw [if_neg (show ¬ (false = true) by decide)] at H; exact H
        clear H
        have H := H1
        clear H1
        simp only [Option.some.injEq, Prod.mk.injEq] at H
        obtain ⟨rfl, rfl, rfl⟩ := H
        go_enter Try.func39, Try.ntmps39
        go_wp2_with (first | ((with_reducible refine gate_dst (N := 2) rfl ?_); refine box_event ?hg (N := 2) ?hd (cs := #[.bool a0_0, .slice A0_1 l0_1.length c0_1]) (t := 26) ?hr ?_; (case hd => rfl); (case hg => rfl); (case hr => first | (go_simp; done) | (go_simp; rfl)); intro gb206 hg w25 hbox hb; have n0_ := Aside0.mk (below_step (by repeat (first | (with_reducible first | exact HB.out | apply below_alloc | apply pw_below_drewN | apply below_drew1) | exact HB.out)) hb); have n1_ := Aside0.mk (hbox); have n2_ := Aside0.mk ((by rw [hg]; exact (below_size (by repeat (first | (with_reducible first | exact HB.out | apply below_alloc | apply pw_below_drewN | apply below_drew1) | exact HB.out))) : w.heap.size ≤ gb206)); have n3_ := Aside0.mk ((by rw [hg]; exact (below_size (by repeat (first | (with_reducible first | exact HB.out | apply below_alloc | apply pw_below_drewN | apply below_drew1) | exact HB.out))) : w.heap.size ≤ gb206)); clear HB; have HB := n0_; have BK206 := n1_; have GW206 := n2_; have GE206 := n3_; clear n0_ n1_ n2_ n3_; clear hb hbox hg) | ((with_reducible refine gate_dst (N := 4) rfl ?_); refine box_event ?hg (N := 4) ?hd (cs := #[.bool false, .slice none 0 0]) (t := 26) ?hr ?_; (case hd => rfl); (case hg => rfl); (case hr => first | (go_simp; done) | (go_simp; rfl)); intro gb207 hg w26 hbox hb; have n0_ := Aside0.mk (blk_below (g := gb206) (o := .cells #[.bool a0_0, .slice A0_1 l0_1.length c0_1] 26 (0, 0)) (by (with_reducible repeat (first | refine blk_drewN ?_ _ | refine blk_drew ?_ | refine blk_alloc ?_ _)); exact BK206.out) hb); have n1_ := Aside0.mk (below_step (by repeat (first | (with_reducible first | exact HB.out | apply below_alloc | apply pw_below_drewN | apply below_drew1 | refine below_set ?_ GE206.out) | exact HB.out)) hb); have n2_ := Aside0.mk (hbox); have n3_ := Aside0.mk ((by rw [hg]; exact (below_size (by repeat (first | (with_reducible first | exact HB.out | apply below_alloc | apply pw_below_drewN | apply below_drew1 | refine below_set ?_ GE206.out) | exact HB.out))) : w.heap.size ≤ gb207)); have n4_ := Aside0.mk ((by rw [hg]; exact (below_size (by repeat (first | (with_reducible first | exact HB.out | apply below_alloc | apply pw_below_drewN | apply below_drew1 | refine below_set ?_ GE206.out) | exact HB.out))) : w.heap.size ≤ gb207)); have n5_ := Aside0.mk ((by rw [hg]; exact Nat.ne_of_lt (blk_lt (g := gb206) (o := .cells #[.bool a0_0, .slice A0_1 l0_1.length c0_1] 26 (0, 0)) (by (with_reducible repeat (first | refine blk_drewN ?_ _ | refine blk_drew ?_ | refine blk_alloc ?_ _)); exact BK206.out)) : gb206 ≠ gb207)); have n6_ := Aside0.mk ((by rw [hg]; exact Nat.ne_of_gt (blk_lt (g := gb206) (o := .cells #[.bool a0_0, .slice A0_1 l0_1.length c0_1] 26 (0, 0)) (by (with_reducible repeat (first | refine blk_drewN ?_ _ | refine blk_drew ?_ | refine blk_alloc ?_ _)); exact BK206.out)) : gb207 ≠ gb206)); clear BK206; clear HB; have BK206 := n0_; have HB := n1_; have BK207 := n2_; have GW207 := n3_; have GE207 := n4_; have NB206_207 := n5_; have NB207_206 := n6_; clear n0_ n1_ n2_ n3_ n4_ n5_ n6_; clear hb hbox hg) | ((with_reducible refine gate_callee (f := 56) rfl ?_); refine goesL_ (some 10) rfl rfl Try.func56 (by kernel_rfl) rfl #[.slice A1 l1.length c1] rfl (by (try simp only [List.map_toArray, List.map_cons, List.map_nil]); first | done | rfl | (simp only [List.length_drop, List.length_take]; rfl)) ?_; (with_reducible refine (white_made.calls _ _ l1 t208 t209 t212 _ ?side1 ?side2 A3.out).mono ?_); (case side1 => repeat (first | exact (Kd.C_below HR1.out HB.out) | (with_reducible refine Kd.C_alloc ?_ _) | (with_reducible refine Kd.C_drewN ?_ _) | (with_reducible refine Kd.C_drew ?_))); (case side2 => exact HC1.out); rintro e w27 ⟨v210, rfl, ho0, hb⟩; refine ⟨_, rfl, ?_⟩; have n0_ := Aside0.mk (Kd.R_lower ho0 (below_size (by repeat (first | (with_reducible first | exact HB.out | apply below_alloc | apply pw_below_drewN | apply below_drew1 | refine below_set ?_ GE206.out | refine below_set ?_ GE207.out) | exact HB.out)))); have n1_ := Aside0.mk (blk_below (g := gb206) (o := .cells #[.bool a0_0, .slice A0_1 l0_1.length c0_1] 26 (0, 0)) (by (with_reducible repeat (first | refine blk_drewN ?_ _ | refine blk_drew ?_ | refine blk_alloc ?_ _)); exact BK206.out) hb); have n2_ := Aside0.mk (blk_below (g := gb207) (o := .cells #[.bool false, .slice none 0 0] 26 (0, 0)) (by (with_reducible repeat (first | refine blk_drewN ?_ _ | refine blk_drew ?_ | refine blk_alloc ?_ _)); exact BK207.out) hb); have n3_ := Aside0.mk (below_step (by repeat (first | (with_reducible first | exact HB.out | apply below_alloc | apply pw_below_drewN | apply below_drew1 | refine below_set ?_ GE206.out | refine below_set ?_ GE207.out) | exact HB.out)) hb); clear BK206; clear BK207; clear HB; have HO211 := n0_; have BK206 := n1_; have BK207 := n2_; have HB := n3_; clear n0_ n1_ n2_ n3_; (try clear hb); (try clear hb2); (try clear hk); (try clear hi); (try clear ho0)) | ((with_reducible refine gate_dst (N := 6) rfl ?_); refine box_event ?hg (N := 6) ?hd (cs := #[.bool false, .slice none 0 0]) (t := 26) ?hr ?_; (case hd => rfl); (case hg => rfl); (case hr => first | (go_simp; done) | (go_simp; rfl)); intro gb213 hg w28 hbox hb; have n0_ := Aside0.mk (Kd.R_below (by (with_reducible repeat (first | apply Kd.R_alloc | apply Kd.R_drewN | apply Kd.R_drew)); exact HO211.out) hb); have n1_ := Aside0.mk (blk_below (g := gb206) (o := .cells #[.bool a0_0, .slice A0_1 l0_1.length c0_1] 26 (0, 0)) (by (with_reducible repeat (first | refine blk_drewN ?_ _ | refine blk_drew ?_ | refine blk_alloc ?_ _)); exact BK206.out) hb); have n2_ := Aside0.mk (blk_below (g := gb207) (o := .cells #[.bool false, .slice none 0 0] 26 (0, 0)) (by (with_reducible repeat (first | refine blk_drewN ?_ _ | refine blk_drew ?_ | refine blk_alloc ?_ _)); exact BK207.out) hb); have n3_ := Aside0.mk (below_step (by repeat (first | (with_reducible first | exact HB.out | apply below_alloc | apply pw_below_drewN | apply below_drew1 | refine below_set ?_ GE206.out | refine below_set ?_ GE207.out) | exact HB.out)) hb); have n4_ := Aside0.mk (hbox); have n5_ := Aside0.mk ((by rw [hg]; exact (below_size (by repeat (first | (with_reducible first | exact HB.out | apply below_alloc | apply pw_below_drewN | apply below_drew1 | refine below_set ?_ GE206.out | refine below_set ?_ GE207.out) | exact HB.out))) : w.heap.size ≤ gb213)); have n6_ := Aside0.mk ((by rw [hg]; exact (below_size (by repeat (first | (with_reducible first | exact HB.out | apply below_alloc | apply pw_below_drewN | apply below_drew1 | refine below_set ?_ GE206.out | refine below_set ?_ GE207.out) | exact HB.out))) : w.heap.size ≤ gb213)); have n7_ := Aside0.mk ((by rw [hg]; exact Nat.ne_of_lt (blk_lt (g := gb206) (o := .cells #[.bool a0_0, .slice A0_1 l0_1.length c0_1] 26 (0, 0)) (by (with_reducible repeat (first | refine blk_drewN ?_ _ | refine blk_drew ?_ | refine blk_alloc ?_ _)); exact BK206.out)) : gb206 ≠ gb213)); have n8_ := Aside0.mk ((by rw [hg]; exact Nat.ne_of_gt (blk_lt (g := gb206) (o := .cells #[.bool a0_0, .slice A0_1 l0_1.length c0_1] 26 (0, 0)) (by (with_reducible repeat (first | refine blk_drewN ?_ _ | refine blk_drew ?_ | refine blk_alloc ?_ _)); exact BK206.out)) : gb213 ≠ gb206)); have n9_ := Aside0.mk ((by rw [hg]; exact Nat.ne_of_lt (blk_lt (g := gb207) (o := .cells #[.bool false, .slice none 0 0] 26 (0, 0)) (by (with_reducible repeat (first | refine blk_drewN ?_ _ | refine blk_drew ?_ | refine blk_alloc ?_ _)); exact BK207.out)) : gb207 ≠ gb213)); have n10_ := Aside0.mk ((by rw [hg]; exact Nat.ne_of_gt (blk_lt (g := gb207) (o := .cells #[.bool false, .slice none 0 0] 26 (0, 0)) (by (with_reducible repeat (first | refine blk_drewN ?_ _ | refine blk_drew ?_ | refine blk_alloc ?_ _)); exact BK207.out)) : gb213 ≠ gb207)); clear HO211; clear BK206; clear BK207; clear HB; have HO211 := n0_; have BK206 := n1_; have BK207 := n2_; have HB := n3_; have BK213 := n4_; have GW213 := n5_; have GE213 := n6_; have NB206_213 := n7_; have NB213_206 := n8_; have NB207_213 := n9_; have NB213_207 := n10_; clear n0_ n1_ n2_ n3_ n4_ n5_ n6_ n7_ n8_ n9_ n10_; clear hb hbox hg; have hnb29 := NB213_206.out; have hnc29 := NB206_213.out; have hnb30 := NB213_207.out; have hnc30 := NB207_213.out; have hcz31_0 : w28.cell? ⟨gb213, 0, none⟩ = some (.bool false) := (blk_cell BK213.out 0).trans rfl; have hcz31_1 : w28.cell? ⟨gb213, 1, none⟩ = some (.slice none 0 0) := (blk_cell BK213.out 1).trans rfl; have hfz31_0 := blk_frozen BK213.out 0; have hfz31_1 := blk_frozen BK213.out 1; obtain ⟨Ao32, co32, eo32⟩ := Kd.R_slice HO211.out; subst eo32; have hnb33 := NB206_207.out; have hnc33 := NB207_206.out; have hcz34_0 : w28.cell? ⟨gb206, 0, none⟩ = some (.bool a0_0) := (blk_cell BK206.out 0).trans rfl; have hcz34_1 : w28.cell? ⟨gb206, 1, none⟩ = some (.slice A0_1 l0_1.length c0_1) := (blk_cell BK206.out 1).trans rfl; have hfz34_0 := blk_frozen BK206.out 0; have hfz34_1 := blk_frozen BK206.out 1) | ((with_reducible refine gate_callee (f := 57) rfl ?_); refine goesL_ (some 20) rfl rfl Try.func57 (by kernel_rfl) rfl #[.agg #[.bool a0_0, .slice A0_1 l0_1.length c0_1]] rfl (by (try simp only [List.map_toArray, List.map_cons, List.map_nil]); first | done | rfl | (simp only [List.length_drop, List.length_take]; rfl)) ?_; (with_reducible refine (white_can.calls k a0_0 _ _ l0_1 true _ ?side1 ?side2 A5.out).mono ?_); (case side1 => exact Kd.C_below HR0_1.out (by repeat (first | (with_reducible first | exact HB.out | apply below_alloc | apply pw_below_drewN | apply below_drew1 | refine below_set ?_ GE206.out | refine below_set ?_ GE207.out | refine below_set ?_ GE213.out) | exact HB.out))); (case side2 => exact HC0_1.out); rintro e w35 ⟨rfl, hb⟩; refine ⟨_, rfl, ?_⟩; have n0_ := Aside0.mk (Kd.R_below (by (with_reducible repeat (first | apply Kd.R_alloc | apply Kd.R_drewN | apply Kd.R_drew)); exact (Kd.R_mono (Kd.R_far (p := ⟨gb213, 1, none⟩) (Kd.R_far (p := ⟨gb213, 0, none⟩) (Kd.R_types HO211.out BK213.out (by decide)) (fun _ hk => hk.2) (.bool t208)) (fun _ hk => hk.2) (.slice Ao32 t209.length co32)) (fun _ h_ => h_.1))) hb); have n1_ := Aside0.mk (blk_below (g := gb206) (o := .cells #[.bool a0_0, .slice A0_1 l0_1.length c0_1] 26 (0, 0)) (by (with_reducible repeat (first | refine blk_drewN ?_ _ | refine blk_drew ?_ | refine blk_alloc ?_ _)); refine blk_far ?_ NB206_213.out _; (with_reducible repeat (first | refine blk_drewN ?_ _ | refine blk_drew ?_ | refine blk_alloc ?_ _)); refine blk_far ?_ NB206_213.out _; (with_reducible repeat (first | refine blk_drewN ?_ _ | refine blk_drew ?_ | refine blk_alloc ?_ _)); exact BK206.out) hb); have n2_ := Aside0.mk (blk_below (g := gb207) (o := .cells #[.bool false, .slice none 0 0] 26 (0, 0)) (by (with_reducible repeat (first | refine blk_drewN ?_ _ | refine blk_drew ?_ | refine blk_alloc ?_ _)); refine blk_far ?_ NB207_213.out _; (with_reducible repeat (first | refine blk_drewN ?_ _ | refine blk_drew ?_ | refine blk_alloc ?_ _)); refine blk_far ?_ NB207_213.out _; (with_reducible repeat (first | refine blk_drewN ?_ _ | refine blk_drew ?_ | refine blk_alloc ?_ _)); exact BK207.out) hb); have n3_ := Aside0.mk (blk_below (g := gb213) (o := .cells #[.bool t208, .slice Ao32 t209.length co32] 26 (0, 0)) (by (with_reducible repeat (first | refine blk_drewN ?_ _ | refine blk_drew ?_ | refine blk_alloc ?_ _)); refine blk_put (cs := #[.bool t208, .slice none 0 0]) ?_ 1 _ rfl; (with_reducible repeat (first | refine blk_drewN ?_ _ | refine blk_drew ?_ | refine blk_alloc ?_ _)); refine blk_put (cs := #[.bool false, .slice none 0 0]) ?_ 0 _ rfl; (with_reducible repeat (first | refine blk_drewN ?_ _ | refine blk_drew ?_ | refine blk_alloc ?_ _)); exact BK213.out) hb); have n4_ := Aside0.mk (below_step (by repeat (first | (with_reducible first | exact HB.out | apply below_alloc | apply pw_below_drewN | apply below_drew1 | refine below_set ?_ GE206.out | refine below_set ?_ GE207.out | refine below_set ?_ GE213.out) | exact HB.out)) hb); clear HO211; clear BK206; clear BK207; clear BK213; clear HB; have HO211 := n0_; have BK206 := n1_; have BK207 := n2_; have BK213 := n3_; have HB := n4_; clear n0_ n1_ n2_ n3_ n4_; (try clear hb); (try clear hb2); (try clear hk); (try clear hi); have hcz36_0 : w35.cell? ⟨gb213, 0, none⟩ = some (.bool t208) := (blk_cell BK213.out 0).trans rfl; have hcz36_1 : w35.cell? ⟨gb213, 1, none⟩ = some (.slice Ao32 t209.length co32) := (blk_cell BK213.out 1).trans rfl; have hfz36_0 := blk_frozen BK213.out 0; have hfz36_1 := blk_frozen BK213.out 1; have hcz37_0 : w35.cell? ⟨gb206, 0, none⟩ = some (.bool a0_0) := (blk_cell BK206.out 0).trans rfl; have hcz37_1 : w35.cell? ⟨gb206, 1, none⟩ = some (.slice A0_1 l0_1.length c0_1) := (blk_cell BK206.out 1).trans rfl; have hfz37_0 := blk_frozen BK206.out 0; have hfz37_1 := blk_frozen BK206.out 1) | ((with_reducible refine gate_callee (f := 58) rfl ?_); refine goesL_ (some 26) rfl rfl Try.func58 (by kernel_rfl) rfl #[.agg #[.bool t208, .slice Ao32 t209.length co32], .agg #[.bool a0_0, .slice A0_1 l0_1.length c0_1]] rfl (by (try simp only [List.map_toArray, List.map_cons, List.map_nil]); first | done | rfl | (simp only [List.length_drop, List.length_take]; rfl)) ?_; (with_reducible refine (white_subset.calls t208 _ _ t209 a0_0 _ _ l0_1 false _ ?side1 ?side2 ?side3 ?side4 A7.out).mono ?_); (case side1 => repeat (first | exact (Kd.R_reads' HO211.out).2.2 | (with_reducible refine Kd.C_alloc ?_ _) | (with_reducible refine Kd.C_drewN ?_ _) | (with_reducible refine Kd.C_drew ?_))); (case side2 => exact (Kd.R_reads' HO211.out).2.1); (case side3 => repeat (first | exact (Kd.C_below HR0_1.out HB.out) | (with_reducible refine Kd.C_alloc ?_ _) | (with_reducible refine Kd.C_drewN ?_ _) | (with_reducible refine Kd.C_drew ?_))); (case side4 => exact HC0_1.out); rintro e w38 ⟨rfl, hb⟩; refine ⟨_, rfl, ?_⟩; have n0_ := Aside0.mk (Kd.R_below (by (with_reducible repeat (first | apply Kd.R_alloc | apply Kd.R_drewN | apply Kd.R_drew)); exact HO211.out) hb); have n1_ := Aside0.mk (blk_below (g := gb206) (o := .cells #[.bool a0_0, .slice A0_1 l0_1.length c0_1] 26 (0, 0)) (by (with_reducible repeat (first | refine blk_drewN ?_ _ | refine blk_drew ?_ | refine blk_alloc ?_ _)); exact BK206.out) hb); have n2_ := Aside0.mk (blk_below (g := gb207) (o := .cells #[.bool false, .slice none 0 0] 26 (0, 0)) (by (with_reducible repeat (first | refine blk_drewN ?_ _ | refine blk_drew ?_ | refine blk_alloc ?_ _)); exact BK207.out) hb); have n3_ := Aside0.mk (blk_below (g := gb213) (o := .cells #[.bool t208, .slice Ao32 t209.length co32] 26 (0, 0)) (by (with_reducible repeat (first | refine blk_drewN ?_ _ | refine blk_drew ?_ | refine blk_alloc ?_ _)); exact BK213.out) hb); have n4_ := Aside0.mk (below_step (by repeat (first | (with_reducible first | exact HB.out | apply below_alloc | apply pw_below_drewN | apply below_drew1 | refine below_set ?_ GE206.out | refine below_set ?_ GE207.out | refine below_set ?_ GE213.out) | exact HB.out)) hb); clear HO211; clear BK206; clear BK207; clear BK213; clear HB; have HO211 := n0_; have BK206 := n1_; have BK207 := n2_; have BK213 := n3_; have HB := n4_; clear n0_ n1_ n2_ n3_ n4_; (try clear hb); (try clear hb2); (try clear hk); (try clear hi); have hcz39_0 : w38.cell? ⟨gb207, 0, none⟩ = some (.bool false) := (blk_cell BK207.out 0).trans rfl; have hcz39_1 : w38.cell? ⟨gb207, 1, none⟩ = some (.slice none 0 0) := (blk_cell BK207.out 1).trans rfl; have hfz39_0 := blk_frozen BK207.out 0; have hfz39_1 := blk_frozen BK207.out 1))
        refine bodyPost_ret (results_ct rfl _ _ gb207 26 #[.bool false, .slice none 0 0] (0, 0) _ rfl (by (with_reducible repeat (first | refine blk_drewN ?_ _ | refine blk_drew ?_ | refine blk_alloc ?_ _)); refine blk_put (cs := #[.bool false, .slice none 0 0]) ?_ 1 _ rfl; (with_reducible repeat (first | refine blk_drewN ?_ _ | refine blk_drew ?_ | refine blk_alloc ?_ _)); refine blk_put (cs := #[.bool false, .slice none 0 0]) ?_ 0 _ rfl; (with_reducible repeat (first | refine blk_drewN ?_ _ | refine blk_drew ?_ | refine blk_alloc ?_ _)); exact BK207.out) Try.underlying26 rfl (by kernel_rfl)) rfl ?_
        exact ⟨_, by first | rfl | (simp [errW_none, errW_some] <;> rfl) | (simp [*, errW_none, errW_some] <;> rfl), by first | exact Kd.R_nil _ _ _ _ _ | exact Kd.N_nil _ _ _ _ _ | exact Kd.V_nil _ _ _ _ _ | exact Kd.Q_nil _ _ _ _ _ | exact Kd.S_nil _ _ _ _ _, by repeat (first | (with_reducible first | exact HB.out | apply below_alloc | apply pw_below_drewN | apply below_drew1 | refine below_set ?_ GE206.out | refine below_set ?_ GE207.out | refine below_set ?_ GE213.out) | exact HB.out)⟩
    · replace c6 := Bool.eq_false_iff.mpr c6
      subst c6
      have H1 : (some (false, ([] : List Int), 22)) = some (r1, r2, r3) := by rw [if_neg (show ¬ (false = true) by decide)] at H; exact H
      clear H
      have H := H1
      clear H1
      simp only [Option.some.injEq, Prod.mk.injEq] at H
      obtain ⟨rfl, rfl, rfl⟩ := H
      go_enter Try.func39, Try.ntmps39
      go_wp2_with (first | ((with_reducible refine gate_dst (N := 2) rfl ?_); refine box_event ?hg (N := 2) ?hd (cs := #[.bool a0_0, .slice A0_1 l0_1.length c0_1]) (t := 26) ?hr ?_; (case hd => rfl); (case hg => rfl); (case hr => first | (go_simp; done) | (go_simp; rfl)); intro gb206 hg w40 hbox hb; have n0_ := Aside0.mk (below_step (by repeat (first | (with_reducible first | exact HB.out | apply below_alloc | apply pw_below_drewN | apply below_drew1) | exact HB.out)) hb); have n1_ := Aside0.mk (hbox); have n2_ := Aside0.mk ((by rw [hg]; exact (below_size (by repeat (first | (with_reducible first | exact HB.out | apply below_alloc | apply pw_below_drewN | apply below_drew1) | exact HB.out))) : w.heap.size ≤ gb206)); have n3_ := Aside0.mk ((by rw [hg]; exact (below_size (by repeat (first | (with_reducible first | exact HB.out | apply below_alloc | apply pw_below_drewN | apply below_drew1) | exact HB.out))) : w.heap.size ≤ gb206)); clear HB; have HB := n0_; have BK206 := n1_; have GW206 := n2_; have GE206 := n3_; clear n0_ n1_ n2_ n3_; clear hb hbox hg) | ((with_reducible refine gate_dst (N := 4) rfl ?_); refine box_event ?hg (N := 4) ?hd (cs := #[.bool false, .slice none 0 0]) (t := 26) ?hr ?_; (case hd => rfl); (case hg => rfl); (case hr => first | (go_simp; done) | (go_simp; rfl)); intro gb207 hg w41 hbox hb; have n0_ := Aside0.mk (blk_below (g := gb206) (o := .cells #[.bool a0_0, .slice A0_1 l0_1.length c0_1] 26 (0, 0)) (by (with_reducible repeat (first | refine blk_drewN ?_ _ | refine blk_drew ?_ | refine blk_alloc ?_ _)); exact BK206.out) hb); have n1_ := Aside0.mk (below_step (by repeat (first | (with_reducible first | exact HB.out | apply below_alloc | apply pw_below_drewN | apply below_drew1 | refine below_set ?_ GE206.out) | exact HB.out)) hb); have n2_ := Aside0.mk (hbox); have n3_ := Aside0.mk ((by rw [hg]; exact (below_size (by repeat (first | (with_reducible first | exact HB.out | apply below_alloc | apply pw_below_drewN | apply below_drew1 | refine below_set ?_ GE206.out) | exact HB.out))) : w.heap.size ≤ gb207)); have n4_ := Aside0.mk ((by rw [hg]; exact (below_size (by repeat (first | (with_reducible first | exact HB.out | apply below_alloc | apply pw_below_drewN | apply below_drew1 | refine below_set ?_ GE206.out) | exact HB.out))) : w.heap.size ≤ gb207)); have n5_ := Aside0.mk ((by rw [hg]; exact Nat.ne_of_lt (blk_lt (g := gb206) (o := .cells #[.bool a0_0, .slice A0_1 l0_1.length c0_1] 26 (0, 0)) (by (with_reducible repeat (first | refine blk_drewN ?_ _ | refine blk_drew ?_ | refine blk_alloc ?_ _)); exact BK206.out)) : gb206 ≠ gb207)); have n6_ := Aside0.mk ((by rw [hg]; exact Nat.ne_of_gt (blk_lt (g := gb206) (o := .cells #[.bool a0_0, .slice A0_1 l0_1.length c0_1] 26 (0, 0)) (by (with_reducible repeat (first | refine blk_drewN ?_ _ | refine blk_drew ?_ | refine blk_alloc ?_ _)); exact BK206.out)) : gb207 ≠ gb206)); clear BK206; clear HB; have BK206 := n0_; have HB := n1_; have BK207 := n2_; have GW207 := n3_; have GE207 := n4_; have NB206_207 := n5_; have NB207_206 := n6_; clear n0_ n1_ n2_ n3_ n4_ n5_ n6_; clear hb hbox hg) | ((with_reducible refine gate_callee (f := 56) rfl ?_); refine goesL_ (some 10) rfl rfl Try.func56 (by kernel_rfl) rfl #[.slice A1 l1.length c1] rfl (by (try simp only [List.map_toArray, List.map_cons, List.map_nil]); first | done | rfl | (simp only [List.length_drop, List.length_take]; rfl)) ?_; (with_reducible refine (white_made.calls _ _ l1 t208 t209 t212 _ ?side1 ?side2 A3.out).mono ?_); (case side1 => repeat (first | exact (Kd.C_below HR1.out HB.out) | (with_reducible refine Kd.C_alloc ?_ _) | (with_reducible refine Kd.C_drewN ?_ _) | (with_reducible refine Kd.C_drew ?_))); (case side2 => exact HC1.out); rintro e w42 ⟨v210, rfl, ho0, hb⟩; refine ⟨_, rfl, ?_⟩; have n0_ := Aside0.mk (Kd.R_lower ho0 (below_size (by repeat (first | (with_reducible first | exact HB.out | apply below_alloc | apply pw_below_drewN | apply below_drew1 | refine below_set ?_ GE206.out | refine below_set ?_ GE207.out) | exact HB.out)))); have n1_ := Aside0.mk (blk_below (g := gb206) (o := .cells #[.bool a0_0, .slice A0_1 l0_1.length c0_1] 26 (0, 0)) (by (with_reducible repeat (first | refine blk_drewN ?_ _ | refine blk_drew ?_ | refine blk_alloc ?_ _)); exact BK206.out) hb); have n2_ := Aside0.mk (blk_below (g := gb207) (o := .cells #[.bool false, .slice none 0 0] 26 (0, 0)) (by (with_reducible repeat (first | refine blk_drewN ?_ _ | refine blk_drew ?_ | refine blk_alloc ?_ _)); exact BK207.out) hb); have n3_ := Aside0.mk (below_step (by repeat (first | (with_reducible first | exact HB.out | apply below_alloc | apply pw_below_drewN | apply below_drew1 | refine below_set ?_ GE206.out | refine below_set ?_ GE207.out) | exact HB.out)) hb); clear BK206; clear BK207; clear HB; have HO211 := n0_; have BK206 := n1_; have BK207 := n2_; have HB := n3_; clear n0_ n1_ n2_ n3_; (try clear hb); (try clear hb2); (try clear hk); (try clear hi); (try clear ho0)) | ((with_reducible refine gate_dst (N := 6) rfl ?_); refine box_event ?hg (N := 6) ?hd (cs := #[.bool false, .slice none 0 0]) (t := 26) ?hr ?_; (case hd => rfl); (case hg => rfl); (case hr => first | (go_simp; done) | (go_simp; rfl)); intro gb213 hg w43 hbox hb; have n0_ := Aside0.mk (Kd.R_below (by (with_reducible repeat (first | apply Kd.R_alloc | apply Kd.R_drewN | apply Kd.R_drew)); exact HO211.out) hb); have n1_ := Aside0.mk (blk_below (g := gb206) (o := .cells #[.bool a0_0, .slice A0_1 l0_1.length c0_1] 26 (0, 0)) (by (with_reducible repeat (first | refine blk_drewN ?_ _ | refine blk_drew ?_ | refine blk_alloc ?_ _)); exact BK206.out) hb); have n2_ := Aside0.mk (blk_below (g := gb207) (o := .cells #[.bool false, .slice none 0 0] 26 (0, 0)) (by (with_reducible repeat (first | refine blk_drewN ?_ _ | refine blk_drew ?_ | refine blk_alloc ?_ _)); exact BK207.out) hb); have n3_ := Aside0.mk (below_step (by repeat (first | (with_reducible first | exact HB.out | apply below_alloc | apply pw_below_drewN | apply below_drew1 | refine below_set ?_ GE206.out | refine below_set ?_ GE207.out) | exact HB.out)) hb); have n4_ := Aside0.mk (hbox); have n5_ := Aside0.mk ((by rw [hg]; exact (below_size (by repeat (first | (with_reducible first | exact HB.out | apply below_alloc | apply pw_below_drewN | apply below_drew1 | refine below_set ?_ GE206.out | refine below_set ?_ GE207.out) | exact HB.out))) : w.heap.size ≤ gb213)); have n6_ := Aside0.mk ((by rw [hg]; exact (below_size (by repeat (first | (with_reducible first | exact HB.out | apply below_alloc | apply pw_below_drewN | apply below_drew1 | refine below_set ?_ GE206.out | refine below_set ?_ GE207.out) | exact HB.out))) : w.heap.size ≤ gb213)); have n7_ := Aside0.mk ((by rw [hg]; exact Nat.ne_of_lt (blk_lt (g := gb206) (o := .cells #[.bool a0_0, .slice A0_1 l0_1.length c0_1] 26 (0, 0)) (by (with_reducible repeat (first | refine blk_drewN ?_ _ | refine blk_drew ?_ | refine blk_alloc ?_ _)); exact BK206.out)) : gb206 ≠ gb213)); have n8_ := Aside0.mk ((by rw [hg]; exact Nat.ne_of_gt (blk_lt (g := gb206) (o := .cells #[.bool a0_0, .slice A0_1 l0_1.length c0_1] 26 (0, 0)) (by (with_reducible repeat (first | refine blk_drewN ?_ _ | refine blk_drew ?_ | refine blk_alloc ?_ _)); exact BK206.out)) : gb213 ≠ gb206)); have n9_ := Aside0.mk ((by rw [hg]; exact Nat.ne_of_lt (blk_lt (g := gb207) (o := .cells #[.bool false, .slice none 0 0] 26 (0, 0)) (by (with_reducible repeat (first | refine blk_drewN ?_ _ | refine blk_drew ?_ | refine blk_alloc ?_ _)); exact BK207.out)) : gb207 ≠ gb213)); have n10_ := Aside0.mk ((by rw [hg]; exact Nat.ne_of_gt (blk_lt (g := gb207) (o := .cells #[.bool false, .slice none 0 0] 26 (0, 0)) (by (with_reducible repeat (first | refine blk_drewN ?_ _ | refine blk_drew ?_ | refine blk_alloc ?_ _)); exact BK207.out)) : gb213 ≠ gb207)); clear HO211; clear BK206; clear BK207; clear HB; have HO211 := n0_; have BK206 := n1_; have BK207 := n2_; have HB := n3_; have BK213 := n4_; have GW213 := n5_; have GE213 := n6_; have NB206_213 := n7_; have NB213_206 := n8_; have NB207_213 := n9_; have NB213_207 := n10_; clear n0_ n1_ n2_ n3_ n4_ n5_ n6_ n7_ n8_ n9_ n10_; clear hb hbox hg; have hnb44 := NB213_206.out; have hnc44 := NB206_213.out; have hnb45 := NB213_207.out; have hnc45 := NB207_213.out; have hcz46_0 : w43.cell? ⟨gb213, 0, none⟩ = some (.bool false) := (blk_cell BK213.out 0).trans rfl; have hcz46_1 : w43.cell? ⟨gb213, 1, none⟩ = some (.slice none 0 0) := (blk_cell BK213.out 1).trans rfl; have hfz46_0 := blk_frozen BK213.out 0; have hfz46_1 := blk_frozen BK213.out 1; obtain ⟨Ao47, co47, eo47⟩ := Kd.R_slice HO211.out; subst eo47; have hnb48 := NB206_207.out; have hnc48 := NB207_206.out; have hcz49_0 : w43.cell? ⟨gb206, 0, none⟩ = some (.bool a0_0) := (blk_cell BK206.out 0).trans rfl; have hcz49_1 : w43.cell? ⟨gb206, 1, none⟩ = some (.slice A0_1 l0_1.length c0_1) := (blk_cell BK206.out 1).trans rfl; have hfz49_0 := blk_frozen BK206.out 0; have hfz49_1 := blk_frozen BK206.out 1) | ((with_reducible refine gate_callee (f := 57) rfl ?_); refine goesL_ (some 20) rfl rfl Try.func57 (by kernel_rfl) rfl #[.agg #[.bool a0_0, .slice A0_1 l0_1.length c0_1]] rfl (by (try simp only [List.map_toArray, List.map_cons, List.map_nil]); first | done | rfl | (simp only [List.length_drop, List.length_take]; rfl)) ?_; (with_reducible refine (white_can.calls k a0_0 _ _ l0_1 false _ ?side1 ?side2 A5.out).mono ?_); (case side1 => exact Kd.C_below HR0_1.out (by repeat (first | (with_reducible first | exact HB.out | apply below_alloc | apply pw_below_drewN | apply below_drew1 | refine below_set ?_ GE206.out | refine below_set ?_ GE207.out | refine below_set ?_ GE213.out) | exact HB.out))); (case side2 => exact HC0_1.out); rintro e w50 ⟨rfl, hb⟩; refine ⟨_, rfl, ?_⟩; have n0_ := Aside0.mk (Kd.R_below (by (with_reducible repeat (first | apply Kd.R_alloc | apply Kd.R_drewN | apply Kd.R_drew)); exact (Kd.R_mono (Kd.R_far (p := ⟨gb213, 1, none⟩) (Kd.R_far (p := ⟨gb213, 0, none⟩) (Kd.R_types HO211.out BK213.out (by decide)) (fun _ hk => hk.2) (.bool t208)) (fun _ hk => hk.2) (.slice Ao47 t209.length co47)) (fun _ h_ => h_.1))) hb); have n1_ := Aside0.mk (blk_below (g := gb206) (o := .cells #[.bool a0_0, .slice A0_1 l0_1.length c0_1] 26 (0, 0)) (by (with_reducible repeat (first | refine blk_drewN ?_ _ | refine blk_drew ?_ | refine blk_alloc ?_ _)); refine blk_far ?_ NB206_213.out _; (with_reducible repeat (first | refine blk_drewN ?_ _ | refine blk_drew ?_ | refine blk_alloc ?_ _)); refine blk_far ?_ NB206_213.out _; (with_reducible repeat (first | refine blk_drewN ?_ _ | refine blk_drew ?_ | refine blk_alloc ?_ _)); exact BK206.out) hb); have n2_ := Aside0.mk (blk_below (g := gb207) (o := .cells #[.bool false, .slice none 0 0] 26 (0, 0)) (by (with_reducible repeat (first | refine blk_drewN ?_ _ | refine blk_drew ?_ | refine blk_alloc ?_ _)); refine blk_far ?_ NB207_213.out _; (with_reducible repeat (first | refine blk_drewN ?_ _ | refine blk_drew ?_ | refine blk_alloc ?_ _)); refine blk_far ?_ NB207_213.out _; (with_reducible repeat (first | refine blk_drewN ?_ _ | refine blk_drew ?_ | refine blk_alloc ?_ _)); exact BK207.out) hb); have n3_ := Aside0.mk (blk_below (g := gb213) (o := .cells #[.bool t208, .slice Ao47 t209.length co47] 26 (0, 0)) (by (with_reducible repeat (first | refine blk_drewN ?_ _ | refine blk_drew ?_ | refine blk_alloc ?_ _)); refine blk_put (cs := #[.bool t208, .slice none 0 0]) ?_ 1 _ rfl; (with_reducible repeat (first | refine blk_drewN ?_ _ | refine blk_drew ?_ | refine blk_alloc ?_ _)); refine blk_put (cs := #[.bool false, .slice none 0 0]) ?_ 0 _ rfl; (with_reducible repeat (first | refine blk_drewN ?_ _ | refine blk_drew ?_ | refine blk_alloc ?_ _)); exact BK213.out) hb); have n4_ := Aside0.mk (below_step (by repeat (first | (with_reducible first | exact HB.out | apply below_alloc | apply pw_below_drewN | apply below_drew1 | refine below_set ?_ GE206.out | refine below_set ?_ GE207.out | refine below_set ?_ GE213.out) | exact HB.out)) hb); clear HO211; clear BK206; clear BK207; clear BK213; clear HB; have HO211 := n0_; have BK206 := n1_; have BK207 := n2_; have BK213 := n3_; have HB := n4_; clear n0_ n1_ n2_ n3_ n4_; (try clear hb); (try clear hb2); (try clear hk); (try clear hi); have hcz51_0 : w50.cell? ⟨gb207, 0, none⟩ = some (.bool false) := (blk_cell BK207.out 0).trans rfl; have hcz51_1 : w50.cell? ⟨gb207, 1, none⟩ = some (.slice none 0 0) := (blk_cell BK207.out 1).trans rfl; have hfz51_0 := blk_frozen BK207.out 0; have hfz51_1 := blk_frozen BK207.out 1))
      refine bodyPost_ret (results_ct rfl _ _ gb207 26 #[.bool false, .slice none 0 0] (0, 0) _ rfl (by (with_reducible repeat (first | refine blk_drewN ?_ _ | refine blk_drew ?_ | refine blk_alloc ?_ _)); refine blk_put (cs := #[.bool false, .slice none 0 0]) ?_ 1 _ rfl; (with_reducible repeat (first | refine blk_drewN ?_ _ | refine blk_drew ?_ | refine blk_alloc ?_ _)); refine blk_put (cs := #[.bool false, .slice none 0 0]) ?_ 0 _ rfl; (with_reducible repeat (first | refine blk_drewN ?_ _ | refine blk_drew ?_ | refine blk_alloc ?_ _)); exact BK207.out) Try.underlying26 rfl (by kernel_rfl)) rfl ?_
      exact ⟨_, by first | rfl | (simp [errW_none, errW_some] <;> rfl) | (simp [*, errW_none, errW_some] <;> rfl), by first | exact Kd.R_nil _ _ _ _ _ | exact Kd.N_nil _ _ _ _ _ | exact Kd.V_nil _ _ _ _ _ | exact Kd.Q_nil _ _ _ _ _ | exact Kd.S_nil _ _ _ _ _, by repeat (first | (with_reducible first | exact HB.out | apply below_alloc | apply pw_below_drewN | apply below_drew1 | refine below_set ?_ GE206.out | refine below_set ?_ GE207.out | refine below_set ?_ GE213.out) | exact HB.out)⟩
  · rw [if_neg c4] at H
    have c4b0 : (t212 == 0) = false := beq_eq_false_iff_ne.mpr c4
    have c4b1 : (t212 != 0) = true := bne_iff_ne.mpr c4
    simp only [Option.some.injEq, Prod.mk.injEq] at H
    obtain ⟨rfl, rfl, rfl⟩ := H
    go_enter Try.func39, Try.ntmps39
    go_wp2_with (first | ((with_reducible refine gate_dst (N := 2) rfl ?_); refine box_event ?hg (N := 2) ?hd (cs := #[.bool a0_0, .slice A0_1 l0_1.length c0_1]) (t := 26) ?hr ?_; (case hd => rfl); (case hg => rfl); (case hr => first | (go_simp; done) | (go_simp; rfl)); intro gb206 hg w52 hbox hb; have n0_ := Aside0.mk (below_step (by repeat (first | (with_reducible first | exact HB.out | apply below_alloc | apply pw_below_drewN | apply below_drew1) | exact HB.out)) hb); have n1_ := Aside0.mk (hbox); have n2_ := Aside0.mk ((by rw [hg]; exact (below_size (by repeat (first | (with_reducible first | exact HB.out | apply below_alloc | apply pw_below_drewN | apply below_drew1) | exact HB.out))) : w.heap.size ≤ gb206)); have n3_ := Aside0.mk ((by rw [hg]; exact (below_size (by repeat (first | (with_reducible first | exact HB.out | apply below_alloc | apply pw_below_drewN | apply below_drew1) | exact HB.out))) : w.heap.size ≤ gb206)); clear HB; have HB := n0_; have BK206 := n1_; have GW206 := n2_; have GE206 := n3_; clear n0_ n1_ n2_ n3_; clear hb hbox hg) | ((with_reducible refine gate_dst (N := 4) rfl ?_); refine box_event ?hg (N := 4) ?hd (cs := #[.bool false, .slice none 0 0]) (t := 26) ?hr ?_; (case hd => rfl); (case hg => rfl); (case hr => first | (go_simp; done) | (go_simp; rfl)); intro gb207 hg w53 hbox hb; have n0_ := Aside0.mk (blk_below (g := gb206) (o := .cells #[.bool a0_0, .slice A0_1 l0_1.length c0_1] 26 (0, 0)) (by (with_reducible repeat (first | refine blk_drewN ?_ _ | refine blk_drew ?_ | refine blk_alloc ?_ _)); exact BK206.out) hb); have n1_ := Aside0.mk (below_step (by repeat (first | (with_reducible first | exact HB.out | apply below_alloc | apply pw_below_drewN | apply below_drew1 | refine below_set ?_ GE206.out) | exact HB.out)) hb); have n2_ := Aside0.mk (hbox); have n3_ := Aside0.mk ((by rw [hg]; exact (below_size (by repeat (first | (with_reducible first | exact HB.out | apply below_alloc | apply pw_below_drewN | apply below_drew1 | refine below_set ?_ GE206.out) | exact HB.out))) : w.heap.size ≤ gb207)); have n4_ := Aside0.mk ((by rw [hg]; exact (below_size (by repeat (first | (with_reducible first | exact HB.out | apply below_alloc | apply pw_below_drewN | apply below_drew1 | refine below_set ?_ GE206.out) | exact HB.out))) : w.heap.size ≤ gb207)); have n5_ := Aside0.mk ((by rw [hg]; exact Nat.ne_of_lt (blk_lt (g := gb206) (o := .cells #[.bool a0_0, .slice A0_1 l0_1.length c0_1] 26 (0, 0)) (by (with_reducible repeat (first | refine blk_drewN ?_ _ | refine blk_drew ?_ | refine blk_alloc ?_ _)); exact BK206.out)) : gb206 ≠ gb207)); have n6_ := Aside0.mk ((by rw [hg]; exact Nat.ne_of_gt (blk_lt (g := gb206) (o := .cells #[.bool a0_0, .slice A0_1 l0_1.length c0_1] 26 (0, 0)) (by (with_reducible repeat (first | refine blk_drewN ?_ _ | refine blk_drew ?_ | refine blk_alloc ?_ _)); exact BK206.out)) : gb207 ≠ gb206)); clear BK206; clear HB; have BK206 := n0_; have HB := n1_; have BK207 := n2_; have GW207 := n3_; have GE207 := n4_; have NB206_207 := n5_; have NB207_206 := n6_; clear n0_ n1_ n2_ n3_ n4_ n5_ n6_; clear hb hbox hg) | ((with_reducible refine gate_callee (f := 56) rfl ?_); refine goesL_ (some 10) rfl rfl Try.func56 (by kernel_rfl) rfl #[.slice A1 l1.length c1] rfl (by (try simp only [List.map_toArray, List.map_cons, List.map_nil]); first | done | rfl | (simp only [List.length_drop, List.length_take]; rfl)) ?_; (with_reducible refine (white_made.calls _ _ l1 t208 t209 t212 _ ?side1 ?side2 A3.out).mono ?_); (case side1 => repeat (first | exact (Kd.C_below HR1.out HB.out) | (with_reducible refine Kd.C_alloc ?_ _) | (with_reducible refine Kd.C_drewN ?_ _) | (with_reducible refine Kd.C_drew ?_))); (case side2 => exact HC1.out); rintro e w54 ⟨v210, rfl, ho0, hb⟩; refine ⟨_, rfl, ?_⟩; have n0_ := Aside0.mk (Kd.R_lower ho0 (below_size (by repeat (first | (with_reducible first | exact HB.out | apply below_alloc | apply pw_below_drewN | apply below_drew1 | refine below_set ?_ GE206.out | refine below_set ?_ GE207.out) | exact HB.out)))); have n1_ := Aside0.mk (blk_below (g := gb206) (o := .cells #[.bool a0_0, .slice A0_1 l0_1.length c0_1] 26 (0, 0)) (by (with_reducible repeat (first | refine blk_drewN ?_ _ | refine blk_drew ?_ | refine blk_alloc ?_ _)); exact BK206.out) hb); have n2_ := Aside0.mk (blk_below (g := gb207) (o := .cells #[.bool false, .slice none 0 0] 26 (0, 0)) (by (with_reducible repeat (first | refine blk_drewN ?_ _ | refine blk_drew ?_ | refine blk_alloc ?_ _)); exact BK207.out) hb); have n3_ := Aside0.mk (below_step (by repeat (first | (with_reducible first | exact HB.out | apply below_alloc | apply pw_below_drewN | apply below_drew1 | refine below_set ?_ GE206.out | refine below_set ?_ GE207.out) | exact HB.out)) hb); clear BK206; clear BK207; clear HB; have HO211 := n0_; have BK206 := n1_; have BK207 := n2_; have HB := n3_; clear n0_ n1_ n2_ n3_; (try clear hb); (try clear hb2); (try clear hk); (try clear hi); (try clear ho0)) | ((with_reducible refine gate_dst (N := 6) rfl ?_); refine box_event ?hg (N := 6) ?hd (cs := #[.bool false, .slice none 0 0]) (t := 26) ?hr ?_; (case hd => rfl); (case hg => rfl); (case hr => first | (go_simp; done) | (go_simp; rfl)); intro gb213 hg w55 hbox hb; have n0_ := Aside0.mk (Kd.R_below (by (with_reducible repeat (first | apply Kd.R_alloc | apply Kd.R_drewN | apply Kd.R_drew)); exact HO211.out) hb); have n1_ := Aside0.mk (blk_below (g := gb206) (o := .cells #[.bool a0_0, .slice A0_1 l0_1.length c0_1] 26 (0, 0)) (by (with_reducible repeat (first | refine blk_drewN ?_ _ | refine blk_drew ?_ | refine blk_alloc ?_ _)); exact BK206.out) hb); have n2_ := Aside0.mk (blk_below (g := gb207) (o := .cells #[.bool false, .slice none 0 0] 26 (0, 0)) (by (with_reducible repeat (first | refine blk_drewN ?_ _ | refine blk_drew ?_ | refine blk_alloc ?_ _)); exact BK207.out) hb); have n3_ := Aside0.mk (below_step (by repeat (first | (with_reducible first | exact HB.out | apply below_alloc | apply pw_below_drewN | apply below_drew1 | refine below_set ?_ GE206.out | refine below_set ?_ GE207.out) | exact HB.out)) hb); have n4_ := Aside0.mk (hbox); have n5_ := Aside0.mk ((by rw [hg]; exact (below_size (by repeat (first | (with_reducible first | exact HB.out | apply below_alloc | apply pw_below_drewN | apply below_drew1 | refine below_set ?_ GE206.out | refine below_set ?_ GE207.out) | exact HB.out))) : w.heap.size ≤ gb213)); have n6_ := Aside0.mk ((by rw [hg]; exact (below_size (by repeat (first | (with_reducible first | exact HB.out | apply below_alloc | apply pw_below_drewN | apply below_drew1 | refine below_set ?_ GE206.out | refine below_set ?_ GE207.out) | exact HB.out))) : w.heap.size ≤ gb213)); have n7_ := Aside0.mk ((by rw [hg]; exact Nat.ne_of_lt (blk_lt (g := gb206) (o := .cells #[.bool a0_0, .slice A0_1 l0_1.length c0_1] 26 (0, 0)) (by (with_reducible repeat (first | refine blk_drewN ?_ _ | refine blk_drew ?_ | refine blk_alloc ?_ _)); exact BK206.out)) : gb206 ≠ gb213)); have n8_ := Aside0.mk ((by rw [hg]; exact Nat.ne_of_gt (blk_lt (g := gb206) (o := .cells #[.bool a0_0, .slice A0_1 l0_1.length c0_1] 26 (0, 0)) (by (with_reducible repeat (first | refine blk_drewN ?_ _ | refine blk_drew ?_ | refine blk_alloc ?_ _)); exact BK206.out)) : gb213 ≠ gb206)); have n9_ := Aside0.mk ((by rw [hg]; exact Nat.ne_of_lt (blk_lt (g := gb207) (o := .cells #[.bool false, .slice none 0 0] 26 (0, 0)) (by (with_reducible repeat (first | refine blk_drewN ?_ _ | refine blk_drew ?_ | refine blk_alloc ?_ _)); exact BK207.out)) : gb207 ≠ gb213)); have n10_ := Aside0.mk ((by rw [hg]; exact Nat.ne_of_gt (blk_lt (g := gb207) (o := .cells #[.bool false, .slice none 0 0] 26 (0, 0)) (by (with_reducible repeat (first | refine blk_drewN ?_ _ | refine blk_drew ?_ | refine blk_alloc ?_ _)); exact BK207.out)) : gb213 ≠ gb207)); clear HO211; clear BK206; clear BK207; clear HB; have HO211 := n0_; have BK206 := n1_; have BK207 := n2_; have HB := n3_; have BK213 := n4_; have GW213 := n5_; have GE213 := n6_; have NB206_213 := n7_; have NB213_206 := n8_; have NB207_213 := n9_; have NB213_207 := n10_; clear n0_ n1_ n2_ n3_ n4_ n5_ n6_ n7_ n8_ n9_ n10_; clear hb hbox hg; have hnb56 := NB213_206.out; have hnc56 := NB206_213.out; have hnb57 := NB213_207.out; have hnc57 := NB207_213.out; have hcz58_0 : w55.cell? ⟨gb213, 0, none⟩ = some (.bool false) := (blk_cell BK213.out 0).trans rfl; have hcz58_1 : w55.cell? ⟨gb213, 1, none⟩ = some (.slice none 0 0) := (blk_cell BK213.out 1).trans rfl; have hfz58_0 := blk_frozen BK213.out 0; have hfz58_1 := blk_frozen BK213.out 1; obtain ⟨Ao59, co59, eo59⟩ := Kd.R_slice HO211.out; subst eo59; have hnb60 := NB207_206.out; have hnc60 := NB206_207.out; have hcz61_0 : w55.cell? ⟨gb207, 0, none⟩ = some (.bool false) := (blk_cell BK207.out 0).trans rfl; have hcz61_1 : w55.cell? ⟨gb207, 1, none⟩ = some (.slice none 0 0) := (blk_cell BK207.out 1).trans rfl; have hfz61_0 := blk_frozen BK207.out 0; have hfz61_1 := blk_frozen BK207.out 1))
    refine bodyPost_ret (results_ct rfl _ _ gb207 26 #[.bool false, .slice none 0 0] (0, 0) _ rfl (by (with_reducible repeat (first | refine blk_drewN ?_ _ | refine blk_drew ?_ | refine blk_alloc ?_ _)); refine blk_put (cs := #[.bool false, .slice none 0 0]) ?_ 1 _ rfl; (with_reducible repeat (first | refine blk_drewN ?_ _ | refine blk_drew ?_ | refine blk_alloc ?_ _)); refine blk_put (cs := #[.bool false, .slice none 0 0]) ?_ 0 _ rfl; (with_reducible repeat (first | refine blk_drewN ?_ _ | refine blk_drew ?_ | refine blk_alloc ?_ _)); refine blk_far ?_ NB207_213.out _; (with_reducible repeat (first | refine blk_drewN ?_ _ | refine blk_drew ?_ | refine blk_alloc ?_ _)); refine blk_far ?_ NB207_213.out _; (with_reducible repeat (first | refine blk_drewN ?_ _ | refine blk_drew ?_ | refine blk_alloc ?_ _)); exact BK207.out) Try.underlying26 rfl (by kernel_rfl)) rfl ?_
    exact ⟨_, by first | rfl | (simp [errW_none, errW_some] <;> rfl) | (simp [*, errW_none, errW_some] <;> rfl), by first | exact Kd.R_nil _ _ _ _ _ | exact Kd.N_nil _ _ _ _ _ | exact Kd.V_nil _ _ _ _ _ | exact Kd.Q_nil _ _ _ _ _ | exact Kd.S_nil _ _ _ _ _, by repeat (first | (with_reducible first | exact HB.out | apply below_alloc | apply pw_below_drewN | apply below_drew1 | refine below_set ?_ GE206.out | refine below_set ?_ GE207.out | refine below_set ?_ GE213.out) | exact HB.out)⟩
end Go.Proofs.Ytilfalpfanaanaa.PA

namespace Go.Proofs.Ytilfalpfanaanaa.PA
open Go.RowKit Go.Proofs.YtilfalpfanaanaaW.PrintWords Go.Proofs.YtilfalpfanaanaaW.PrintLast Go.Proofs.YtilfalpfanaanaaW.PrintMore Go.Proofs.Ytilfalpfanaanaa.Sx
set_option maxHeartbeats 8000000 in
set_option maxRecDepth 100000 in
theorem Limit_err {w : World} (x : Option Addr) (fd er : Int) (he : er ≠ 0) (r : Int)
  (hG : Calls Try.prog 36 #[.pointer x, .int .i64 fd] w fun e w'' => e = .returned (.tuple #[.pointer none, .int .i64 er]) ∧ w'' = w) :
  Calls Try.prog 14 #[.pointer x, .int .i64 fd, .int .u32 r] w fun e w' => e = .returned (.int .i64 er) ∧ w' = w := by
 refine s_enter (n := 44) (L := [(0, .pointer x), (1, .int .i64 fd), (2, .int .u32 r)]) Try.func14 rfl rfl rfl rfl ?_
 have S1 := St.start w no
 refine s_seq ?_
 refine s_region ?_
 refine qv (v := .int .i64 0) (r_assign rfl) ?_
 refine q_nil ?_
 refine x_seq ?_
 refine s_seq ?_
 refine s_region ?_
 refine qv (v := .pointer x) (r_move rfl) ?_
 refine qv (v := .int .i64 fd) (r_move rfl) ?_
 refine qo ?_
 refine e_call (args := [.pointer x, .int .i64 fd]) Try.func36 (by kernel_rfl) rfl rfl ?_
 refine (hG).mono ?_
 rintro e w2 ⟨rfl, rfl⟩
 refine ⟨_, rfl, ?_⟩
 refine qv (v := .tuple #[.pointer none, .int .i64 er]) (r_move rfl) ?_
 refine qv (v := .pointer none) (r_extract rfl rfl) ?_
 refine qv (v := .int .i64 er) (r_extract rfl rfl) ?_
 refine qv (v := .pointer none) (r_assign rfl) ?_
 refine qv (v := .int .i64 er) (r_assign rfl) ?_
 refine q_nil ?_
 refine x_seq ?_
 refine s_seq ?_
 refine s_block ?_
 refine s_seq ?_
 refine s_region ?_
 refine qv (v := .int .i64 er) (r_move rfl) ?_
 refine qv (v := .bool true) (r_neq rfl rfl (bne_t (he))) ?_
 refine qv (v := .bool true) (r_assign rfl) ?_
 refine q_nil ?_
 refine x_seq ?_
 refine s_true rfl ?_
 refine s_seq ?_
 refine s_region ?_
 refine qv (v := .int .i64 er) (r_move rfl) ?_
 refine qv (v := .int .i64 er) (r_assign rfl) ?_
 refine q_nil ?_
 refine x_seq ?_
 refine s_ret ?_
 refine x_blk_ret ?_
 refine x_seq_ret ?_
 refine t_ret1 (v := .int .i64 er) rfl rfl ?_
 exact ⟨rfl, rfl⟩
set_option maxHeartbeats 8000000 in
set_option maxRecDepth 100000 in
theorem LimitIoctls_err {w : World} (x : Option Addr) (fd er : Int) (he : er ≠ 0) (A : Option Addr) (l : List Int) (c : Nat)
  (hG : Calls Try.prog 36 #[.pointer x, .int .i64 fd] w fun e w'' => e = .returned (.tuple #[.pointer none, .int .i64 er]) ∧ w'' = w) :
  Calls Try.prog 15 #[.pointer x, .int .i64 fd, .slice A l.length c] w fun e w' => e = .returned (.int .i64 er) ∧ w' = w := by
 refine s_enter (n := 35) (L := [(0, .pointer x), (1, .int .i64 fd), (2, .slice A l.length c)]) Try.func15 rfl rfl rfl rfl ?_
 have S1 := St.start w no
 refine s_seq ?_
 refine s_region ?_
 refine qv (v := .int .i64 0) (r_assign rfl) ?_
 refine q_nil ?_
 refine x_seq ?_
 refine s_seq ?_
 refine s_region ?_
 refine qv (v := .pointer x) (r_move rfl) ?_
 refine qv (v := .int .i64 fd) (r_move rfl) ?_
 refine qo ?_
 refine e_call (args := [.pointer x, .int .i64 fd]) Try.func36 (by kernel_rfl) rfl rfl ?_
 refine (hG).mono ?_
 rintro e w2 ⟨rfl, rfl⟩
 refine ⟨_, rfl, ?_⟩
 refine qv (v := .tuple #[.pointer none, .int .i64 er]) (r_move rfl) ?_
 refine qv (v := .pointer none) (r_extract rfl rfl) ?_
 refine qv (v := .int .i64 er) (r_extract rfl rfl) ?_
 refine qv (v := .pointer none) (r_assign rfl) ?_
 refine qv (v := .int .i64 er) (r_assign rfl) ?_
 refine q_nil ?_
 refine x_seq ?_
 refine s_seq ?_
 refine s_seq ?_
 refine s_region ?_
 refine qv (v := .int .i64 er) (r_move rfl) ?_
 refine qv (v := .bool true) (r_neq rfl rfl (bne_t (he))) ?_
 refine q_nil ?_
 refine x_seq ?_
 refine s_true rfl ?_
 refine s_seq ?_
 refine s_region ?_
 refine qv (v := .int .i64 er) (r_move rfl) ?_
 refine qv (v := .int .i64 er) (r_assign rfl) ?_
 refine q_nil ?_
 refine x_seq ?_
 refine s_ret ?_
 refine x_seq_ret ?_
 refine t_ret1 (v := .int .i64 er) rfl rfl ?_
 exact ⟨rfl, rfl⟩
set_option maxHeartbeats 8000000 in
set_option maxRecDepth 100000 in
theorem LimitFcntls_err {w : World} (x : Option Addr) (fd er : Int) (he : er ≠ 0) (m : Int)
  (hG : Calls Try.prog 36 #[.pointer x, .int .i64 fd] w fun e w'' => e = .returned (.tuple #[.pointer none, .int .i64 er]) ∧ w'' = w) :
  Calls Try.prog 16 #[.pointer x, .int .i64 fd, .int .i64 m] w fun e w' => e = .returned (.int .i64 er) ∧ w' = w := by
 refine s_enter (n := 35) (L := [(0, .pointer x), (1, .int .i64 fd), (2, .int .i64 m)]) Try.func16 rfl rfl rfl rfl ?_
 have S1 := St.start w no
 refine s_seq ?_
 refine s_region ?_
 refine qv (v := .int .i64 0) (r_assign rfl) ?_
 refine q_nil ?_
 refine x_seq ?_
 refine s_seq ?_
 refine s_region ?_
 refine qv (v := .pointer x) (r_move rfl) ?_
 refine qv (v := .int .i64 fd) (r_move rfl) ?_
 refine qo ?_
 refine e_call (args := [.pointer x, .int .i64 fd]) Try.func36 (by kernel_rfl) rfl rfl ?_
 refine (hG).mono ?_
 rintro e w2 ⟨rfl, rfl⟩
 refine ⟨_, rfl, ?_⟩
 refine qv (v := .tuple #[.pointer none, .int .i64 er]) (r_move rfl) ?_
 refine qv (v := .pointer none) (r_extract rfl rfl) ?_
 refine qv (v := .int .i64 er) (r_extract rfl rfl) ?_
 refine qv (v := .pointer none) (r_assign rfl) ?_
 refine qv (v := .int .i64 er) (r_assign rfl) ?_
 refine q_nil ?_
 refine x_seq ?_
 refine s_seq ?_
 refine s_seq ?_
 refine s_region ?_
 refine qv (v := .int .i64 er) (r_move rfl) ?_
 refine qv (v := .bool true) (r_neq rfl rfl (bne_t (he))) ?_
 refine q_nil ?_
 refine x_seq ?_
 refine s_true rfl ?_
 refine s_seq ?_
 refine s_region ?_
 refine qv (v := .int .i64 er) (r_move rfl) ?_
 refine qv (v := .int .i64 er) (r_assign rfl) ?_
 refine q_nil ?_
 refine x_seq ?_
 refine s_ret ?_
 refine x_seq_ret ?_
 refine t_ret1 (v := .int .i64 er) rfl rfl ?_
 exact ⟨rfl, rfl⟩
set_option maxHeartbeats 8000000 in
set_option maxRecDepth 100000 in
theorem Limit_cap {w : World} {b g p : Nat} {ok : Nat → Prop} {qs : List (Option Nat)} {ss : List (Option Slot)} (h : TabAt w b ok g p qs ss) (fd : Int) (h0 : 0 ≤ fd) {q : Nat} (hq : qs[fd.toNat]? = some (some q)) (s0 : Slot) (hs0 : ss[fd.toNat]? = some (some s0)) (r : Int) (hsub : rights_Subset.f r s0.f1 = some false) :
  Calls Try.prog 14 #[.pointer (some ⟨g, 0, none⟩), .int .i64 fd, .int .u32 r] w fun e w' => e = .returned (.int .i64 93) ∧ Below w.heap.size w w' := by
 have HT := Aside0.mk h
 have HQ := Aside0.mk hq
 obtain ⟨_, _, s1, hs1, A0, c0, hb0, hr0⟩ := h.som fd.toNat q hq
 rw [hs0] at hs1
 obtain rfl := Option.some.inj (Option.some.inj hs1)
 have HR0 := Aside0.mk hr0
 have HB0 := Aside0.mk hb0
 have HSub := Aside0.mk hsub
 have S0 := (St.start w no).add hb0 (fun x hx => by cases hx)
 have HB := Aside0.mk (Below.refl w.heap.size w)
 clear hs1 hb0 hr0 hq hsub
 refine s_enter (n := 44) (L := [(0, .pointer (some ⟨g, 0, none⟩)), (1, .int .i64 fd), (2, .int .u32 r)]) Try.func14 rfl rfl rfl rfl ?_
 refine s_seq ?_
 refine s_region ?_
 refine qv (v := .int .i64 0) (r_assign rfl) ?_
 refine q_nil ?_
 refine x_seq ?_
 refine s_seq ?_
 refine s_region ?_
 refine qv (v := .pointer (some ⟨g, 0, none⟩)) (r_move rfl) ?_
 refine qv (v := .int .i64 fd) (r_move rfl) ?_
 refine qo ?_
 refine e_call (args := [.pointer (some ⟨g, 0, none⟩), .int .i64 fd]) Try.func36 (by kernel_rfl) rfl rfl ?_
 refine (get_ok (HT.out.below HB.out) fd h0 HQ.out).mono ?_
 rintro e w1 ⟨rfl, rfl⟩
 refine ⟨_, rfl, ?_⟩
 refine qv (v := .tuple #[.pointer (some ⟨q, 0, none⟩), .int .i64 0]) (r_move rfl) ?_
 refine qv (v := .pointer (some ⟨q, 0, none⟩)) (r_extract rfl rfl) ?_
 refine qv (v := .int .i64 0) (r_extract rfl rfl) ?_
 refine qv (v := .pointer (some ⟨q, 0, none⟩)) (r_assign rfl) ?_
 refine qv (v := .int .i64 0) (r_assign rfl) ?_
 refine q_nil ?_
 refine x_seq ?_
 refine s_seq ?_
 refine s_block ?_
 refine s_seq ?_
 refine s_region ?_
 refine qv (v := .int .i64 0) (r_move rfl) ?_
 refine qv (v := .bool false) (r_neq rfl rfl (bne_f (by omega))) ?_
 refine qv (v := .bool false) (r_assign rfl) ?_
 refine q_nil ?_
 refine x_seq ?_
 refine s_false rfl ?_
 refine s_seq ?_
 refine s_region ?_
 refine qv (v := .int .u32 r) (r_move rfl) ?_
 refine qv (v := .pointer (some ⟨q, 0, none⟩)) (r_move rfl) ?_
 refine qv (v := .pointer (some ⟨q, 0, none⟩)) (r_nilCheck rfl) ?_
 refine qv (v := .pointer (some ⟨q, 1, none⟩)) (r_field fld_28_1 rfl rfl) ?_
 refine qv (v := .int .u32 s0.f1) (r_load1 sz_23 rfl (S0.cell 0 rfl rfl)) ?_
 refine qo ?_
 refine e_call (args := [.int .u32 r, .int .u32 s0.f1]) Try.func37 (by kernel_rfl) rfl rfl ?_
 refine (rights_Subset.calls _ _ false _ HSub.out).mono ?_
 rintro e w4 ⟨rfl, hb⟩
 refine ⟨_, rfl, ?_⟩
 have B5 := hb.below
 have S6 := S0.call B5
 have HBn := Aside0.mk (below_step HB.out B5)
 clear HB
 have HB := HBn
 clear HBn
 refine qv (v := .bool true) (r_not rfl rfl) ?_
 refine qv (v := .bool true) (r_assign rfl) ?_
 refine q_nil ?_
 refine x_seq ?_
 refine s_true rfl ?_
 refine s_seq ?_
 refine s_region ?_
 refine qv (v := .int .i64 93) (r_assign rfl) ?_
 refine q_nil ?_
 refine x_seq ?_
 refine s_ret ?_
 refine x_blk_ret ?_
 refine x_seq_ret ?_
 refine t_ret1 (v := .int .i64 93) rfl rfl ?_
 exact ⟨rfl, S6.ext.below⟩
set_option maxHeartbeats 8000000 in
set_option maxRecDepth 100000 in
theorem Limit_ok {w : World} {b g p : Nat} {ok : Nat → Prop} {qs : List (Option Nat)} {ss : List (Option Slot)} (h : TabAt w b ok g p qs ss) (fd : Int) (h0 : 0 ≤ fd) {q : Nat} (hq : qs[fd.toNat]? = some (some q)) (s0 : Slot) (hs0 : ss[fd.toNat]? = some (some s0)) (r : Int) (hsub : rights_Subset.f r s0.f1 = some true) :
  Calls Try.prog 14 #[.pointer (some ⟨g, 0, none⟩), .int .i64 fd, .int .u32 r] w fun e w' => e = .returned (.int .i64 0) ∧ TabAt w' b ok g p qs (ss.set fd.toNat (some (limS s0 r))) ∧ Ext (fun k => k = q) w w' := by
 have HT := Aside0.mk h
 have HQ := Aside0.mk hq
 obtain ⟨_, _, s1, hs1, A0, c0, hb0, hr0⟩ := h.som fd.toNat q hq
 rw [hs0] at hs1
 obtain rfl := Option.some.inj (Option.some.inj hs1)
 have HR0 := Aside0.mk hr0
 have HB0 := Aside0.mk hb0
 have HSub := Aside0.mk hsub
 have S0 := (St.start w (fun k => k = q)).add hb0 (fun x hx => by cases hx)
 have HB := Aside0.mk (Below.refl w.heap.size w)
 clear hs1 hb0 hr0 hq hsub
 refine s_enter (n := 44) (L := [(0, .pointer (some ⟨g, 0, none⟩)), (1, .int .i64 fd), (2, .int .u32 r)]) Try.func14 rfl rfl rfl rfl ?_
 refine s_seq ?_
 refine s_region ?_
 refine qv (v := .int .i64 0) (r_assign rfl) ?_
 refine q_nil ?_
 refine x_seq ?_
 refine s_seq ?_
 refine s_region ?_
 refine qv (v := .pointer (some ⟨g, 0, none⟩)) (r_move rfl) ?_
 refine qv (v := .int .i64 fd) (r_move rfl) ?_
 refine qo ?_
 refine e_call (args := [.pointer (some ⟨g, 0, none⟩), .int .i64 fd]) Try.func36 (by kernel_rfl) rfl rfl ?_
 refine (get_ok (HT.out.below HB.out) fd h0 HQ.out).mono ?_
 rintro e w1 ⟨rfl, rfl⟩
 refine ⟨_, rfl, ?_⟩
 refine qv (v := .tuple #[.pointer (some ⟨q, 0, none⟩), .int .i64 0]) (r_move rfl) ?_
 refine qv (v := .pointer (some ⟨q, 0, none⟩)) (r_extract rfl rfl) ?_
 refine qv (v := .int .i64 0) (r_extract rfl rfl) ?_
 refine qv (v := .pointer (some ⟨q, 0, none⟩)) (r_assign rfl) ?_
 refine qv (v := .int .i64 0) (r_assign rfl) ?_
 refine q_nil ?_
 refine x_seq ?_
 refine s_seq ?_
 refine s_block ?_
 refine s_seq ?_
 refine s_region ?_
 refine qv (v := .int .i64 0) (r_move rfl) ?_
 refine qv (v := .bool false) (r_neq rfl rfl (bne_f (by omega))) ?_
 refine qv (v := .bool false) (r_assign rfl) ?_
 refine q_nil ?_
 refine x_seq ?_
 refine s_false rfl ?_
 refine s_seq ?_
 refine s_region ?_
 refine qv (v := .int .u32 r) (r_move rfl) ?_
 refine qv (v := .pointer (some ⟨q, 0, none⟩)) (r_move rfl) ?_
 refine qv (v := .pointer (some ⟨q, 0, none⟩)) (r_nilCheck rfl) ?_
 refine qv (v := .pointer (some ⟨q, 1, none⟩)) (r_field fld_28_1 rfl rfl) ?_
 refine qv (v := .int .u32 s0.f1) (r_load1 sz_23 rfl (S0.cell 0 rfl rfl)) ?_
 refine qo ?_
 refine e_call (args := [.int .u32 r, .int .u32 s0.f1]) Try.func37 (by kernel_rfl) rfl rfl ?_
 refine (rights_Subset.calls _ _ true _ HSub.out).mono ?_
 rintro e w4 ⟨rfl, hb⟩
 refine ⟨_, rfl, ?_⟩
 have B5 := hb.below
 have S6 := S0.call B5
 have HBn := Aside0.mk (below_step HB.out B5)
 clear HB
 have HB := HBn
 clear HBn
 refine qv (v := .bool false) (r_not rfl rfl) ?_
 refine qv (v := .bool false) (r_assign rfl) ?_
 refine q_nil ?_
 refine x_seq ?_
 refine s_false rfl ?_
 refine s_skip ?_
 refine x_blk ?_
 refine x_seq ?_
 refine s_seq ?_
 refine s_region ?_
 refine qv (v := .pointer (some ⟨q, 0, none⟩)) (r_move rfl) ?_
 refine qv (v := .int .u32 r) (r_move rfl) ?_
 refine qv (v := .pointer (some ⟨q, 0, none⟩)) (r_nilCheck rfl) ?_
 refine qv (v := .pointer (some ⟨q, 1, none⟩)) (r_field fld_28_1 rfl rfl) ?_
 refine qo ?_
 refine e_store (vs := [.int .u32 r]) (cs' := [.int .i64 s0.f0, .int .u32 r, .bool s0.f2.f0, .slice A0 s0.f2.f1.length c0, .int .i64 s0.f3]) S6 rfl rfl rfl rfl sz_23 0 rfl (.inr rfl) rfl rfl rfl ?_
 intro w7 S8 E9
 refine q_nil ?_
 refine x_seq ?_
 refine s_seq ?_
 refine s_seq ?_
 refine s_region ?_
 refine qv (v := .int .u32 r) (r_move rfl) ?_
 refine qv (v := .int .u32 (Go.bits .and .u32 r 268435456)) (r_and rfl rfl (rfl)) ?_
 by_cases hI : ((Go.bits .and .u32 r 268435456 : Int) = 0)
 ·skip
  refine qv (v := .bool true) (r_eql rfl rfl (beq_t (hI))) ?_
  refine q_nil ?_
  refine x_seq ?_
  refine s_true rfl ?_
  refine s_region ?_
  refine qv (v := .pointer (some ⟨q, 0, none⟩)) (r_move rfl) ?_
  refine qv (v := .agg #[.bool false, .slice none 0 0]) (r_build (ps := []) rfl (by kernel_rfl)) ?_
  refine qv (v := .pointer (some ⟨q, 0, none⟩)) (r_nilCheck rfl) ?_
  refine qv (v := .pointer (some ⟨q, 2, none⟩)) (r_field fld_28_2 rfl rfl) ?_
  refine qo ?_
  refine e_store (vs := [.bool false, .slice none 0 0]) (cs' := [.int .i64 s0.f0, .int .u32 r, .bool false, .slice none 0 0, .int .i64 s0.f3]) S8 rfl rfl rfl rfl sz_26 0 rfl (.inr rfl) rfl rfl rfl ?_
  intro w10 S11 E12
  refine q_nil ?_
  refine x_seq ?_
  refine s_seq ?_
  refine s_seq ?_
  refine s_region ?_
  refine qv (v := .int .u32 r) (r_move rfl) ?_
  refine qv (v := .int .u32 (Go.bits .and .u32 r 512)) (r_and rfl rfl (rfl)) ?_
  by_cases hF : ((Go.bits .and .u32 r 512 : Int) = 0)
  ·skip
   refine qv (v := .bool true) (r_eql rfl rfl (beq_t (hF))) ?_
   refine q_nil ?_
   refine x_seq ?_
   refine s_true rfl ?_
   refine s_region ?_
   refine qv (v := .pointer (some ⟨q, 0, none⟩)) (r_move rfl) ?_
   refine qv (v := .pointer (some ⟨q, 0, none⟩)) (r_nilCheck rfl) ?_
   refine qv (v := .pointer (some ⟨q, 4, none⟩)) (r_field fld_28_3 rfl rfl) ?_
   refine qo ?_
   refine e_store (vs := [.int .i64 0]) (cs' := [.int .i64 s0.f0, .int .u32 r, .bool false, .slice none 0 0, .int .i64 0]) S11 rfl rfl rfl rfl sz_3 0 rfl (.inr rfl) rfl rfl rfl ?_
   intro w13 S14 E15
   refine q_nil ?_
   refine x_seq ?_
   refine s_seq ?_
   refine s_region ?_
   refine qv (v := .int .i64 0) (r_assign rfl) ?_
   refine q_nil ?_
   refine x_seq ?_
   refine s_ret ?_
   refine t_ret1 (v := .int .i64 0) rfl rfl ?_
   refine ⟨rfl, HT.out.at_slot HQ.out (limS s0 r) (fun k hk h1 h2 => S14.ext.block k h1 h2) ?_, S14.ext⟩
   unfold limS
   first | rw [if_pos hI] | rw [if_neg hI]
   first | rw [if_pos hF] | rw [if_neg hF]
   exact ⟨none, 0, S14.blk 0 rfl, Kd.R_nil _ _ _ _ _⟩
  ·skip
   refine qv (v := .bool false) (r_eql rfl rfl (beq_f (hF))) ?_
   refine q_nil ?_
   refine x_seq ?_
   refine s_false rfl ?_
   refine s_skip ?_
   refine x_seq ?_
   refine s_seq ?_
   refine s_region ?_
   refine qv (v := .int .i64 0) (r_assign rfl) ?_
   refine q_nil ?_
   refine x_seq ?_
   refine s_ret ?_
   refine t_ret1 (v := .int .i64 0) rfl rfl ?_
   refine ⟨rfl, HT.out.at_slot HQ.out (limS s0 r) (fun k hk h1 h2 => S11.ext.block k h1 h2) ?_, S11.ext⟩
   unfold limS
   first | rw [if_pos hI] | rw [if_neg hI]
   first | rw [if_pos hF] | rw [if_neg hF]
   exact ⟨none, 0, S11.blk 0 rfl, Kd.R_nil _ _ _ _ _⟩
 ·skip
  refine qv (v := .bool false) (r_eql rfl rfl (beq_f (hI))) ?_
  refine q_nil ?_
  refine x_seq ?_
  refine s_false rfl ?_
  refine s_skip ?_
  refine x_seq ?_
  refine s_seq ?_
  refine s_seq ?_
  refine s_region ?_
  refine qv (v := .int .u32 r) (r_move rfl) ?_
  refine qv (v := .int .u32 (Go.bits .and .u32 r 512)) (r_and rfl rfl (rfl)) ?_
  by_cases hF : ((Go.bits .and .u32 r 512 : Int) = 0)
  ·skip
   refine qv (v := .bool true) (r_eql rfl rfl (beq_t (hF))) ?_
   refine q_nil ?_
   refine x_seq ?_
   refine s_true rfl ?_
   refine s_region ?_
   refine qv (v := .pointer (some ⟨q, 0, none⟩)) (r_move rfl) ?_
   refine qv (v := .pointer (some ⟨q, 0, none⟩)) (r_nilCheck rfl) ?_
   refine qv (v := .pointer (some ⟨q, 4, none⟩)) (r_field fld_28_3 rfl rfl) ?_
   refine qo ?_
   refine e_store (vs := [.int .i64 0]) (cs' := [.int .i64 s0.f0, .int .u32 r, .bool s0.f2.f0, .slice A0 s0.f2.f1.length c0, .int .i64 0]) S8 rfl rfl rfl rfl sz_3 0 rfl (.inr rfl) rfl rfl rfl ?_
   intro w16 S17 E18
   refine q_nil ?_
   refine x_seq ?_
   refine s_seq ?_
   refine s_region ?_
   refine qv (v := .int .i64 0) (r_assign rfl) ?_
   refine q_nil ?_
   refine x_seq ?_
   refine s_ret ?_
   refine t_ret1 (v := .int .i64 0) rfl rfl ?_
   refine ⟨rfl, HT.out.at_slot HQ.out (limS s0 r) (fun k hk h1 h2 => S17.ext.block k h1 h2) ?_, S17.ext⟩
   unfold limS
   first | rw [if_pos hI] | rw [if_neg hI]
   first | rw [if_pos hF] | rw [if_neg hF]
   exact ⟨A0, c0, S17.blk 0 rfl, slot_row HR0.out HB0.out (S17.ext)⟩
  ·skip
   refine qv (v := .bool false) (r_eql rfl rfl (beq_f (hF))) ?_
   refine q_nil ?_
   refine x_seq ?_
   refine s_false rfl ?_
   refine s_skip ?_
   refine x_seq ?_
   refine s_seq ?_
   refine s_region ?_
   refine qv (v := .int .i64 0) (r_assign rfl) ?_
   refine q_nil ?_
   refine x_seq ?_
   refine s_ret ?_
   refine t_ret1 (v := .int .i64 0) rfl rfl ?_
   refine ⟨rfl, HT.out.at_slot HQ.out (limS s0 r) (fun k hk h1 h2 => S8.ext.block k h1 h2) ?_, S8.ext⟩
   unfold limS
   first | rw [if_pos hI] | rw [if_neg hI]
   first | rw [if_pos hF] | rw [if_neg hF]
   exact ⟨A0, c0, S8.blk 0 rfl, slot_row HR0.out HB0.out (S8.ext)⟩
set_option maxHeartbeats 8000000 in
set_option maxRecDepth 100000 in
theorem LimitFcntls_ok {w : World} {b g p : Nat} {ok : Nat → Prop} {qs : List (Option Nat)} {ss : List (Option Slot)} (h : TabAt w b ok g p qs ss) (fd : Int) (h0 : 0 ≤ fd) {q : Nat} (hq : qs[fd.toNat]? = some (some q)) (s0 : Slot) (hs0 : ss[fd.toNat]? = some (some s0)) (m r1 : Int) (hm : white_Mask.f s0.f3 m = some (r1, 0)) :
  Calls Try.prog 16 #[.pointer (some ⟨g, 0, none⟩), .int .i64 fd, .int .i64 m] w fun e w' => e = .returned (.int .i64 0) ∧ TabAt w' b ok g p qs (ss.set fd.toNat (some ⟨s0.f0, s0.f1, s0.f2, r1⟩)) ∧ Ext (fun k => k = q) w w' := by
 have HT := Aside0.mk h
 have HQ := Aside0.mk hq
 obtain ⟨_, _, s1, hs1, A0, c0, hb0, hr0⟩ := h.som fd.toNat q hq
 rw [hs0] at hs1
 obtain rfl := Option.some.inj (Option.some.inj hs1)
 have HR0 := Aside0.mk hr0
 have HB0 := Aside0.mk hb0
 have HM := Aside0.mk hm
 have S0 := (St.start w (fun k => k = q)).add hb0 (fun x hx => by cases hx)
 have HB := Aside0.mk (Below.refl w.heap.size w)
 clear hs1 hb0 hr0 hq hm
 refine s_enter (n := 35) (L := [(0, .pointer (some ⟨g, 0, none⟩)), (1, .int .i64 fd), (2, .int .i64 m)]) Try.func16 rfl rfl rfl rfl ?_
 refine s_seq ?_
 refine s_region ?_
 refine qv (v := .int .i64 0) (r_assign rfl) ?_
 refine q_nil ?_
 refine x_seq ?_
 refine s_seq ?_
 refine s_region ?_
 refine qv (v := .pointer (some ⟨g, 0, none⟩)) (r_move rfl) ?_
 refine qv (v := .int .i64 fd) (r_move rfl) ?_
 refine qo ?_
 refine e_call (args := [.pointer (some ⟨g, 0, none⟩), .int .i64 fd]) Try.func36 (by kernel_rfl) rfl rfl ?_
 refine (get_ok (HT.out.below HB.out) fd h0 HQ.out).mono ?_
 rintro e w1 ⟨rfl, rfl⟩
 refine ⟨_, rfl, ?_⟩
 refine qv (v := .tuple #[.pointer (some ⟨q, 0, none⟩), .int .i64 0]) (r_move rfl) ?_
 refine qv (v := .pointer (some ⟨q, 0, none⟩)) (r_extract rfl rfl) ?_
 refine qv (v := .int .i64 0) (r_extract rfl rfl) ?_
 refine qv (v := .pointer (some ⟨q, 0, none⟩)) (r_assign rfl) ?_
 refine qv (v := .int .i64 0) (r_assign rfl) ?_
 refine q_nil ?_
 refine x_seq ?_
 refine s_seq ?_
 refine s_seq ?_
 refine s_region ?_
 refine qv (v := .int .i64 0) (r_move rfl) ?_
 refine qv (v := .bool false) (r_neq rfl rfl (bne_f (by omega))) ?_
 refine q_nil ?_
 refine x_seq ?_
 refine s_false rfl ?_
 refine s_skip ?_
 refine x_seq ?_
 refine s_seq ?_
 refine s_region ?_
 refine qv (v := .pointer (some ⟨q, 0, none⟩)) (r_move rfl) ?_
 refine qv (v := .pointer (some ⟨q, 0, none⟩)) (r_nilCheck rfl) ?_
 refine qv (v := .pointer (some ⟨q, 4, none⟩)) (r_field fld_28_3 rfl rfl) ?_
 refine qv (v := .int .i64 s0.f3) (r_load1 sz_3 rfl (S0.cell 0 rfl rfl)) ?_
 refine qv (v := .int .i64 m) (r_move rfl) ?_
 refine qo ?_
 refine e_call (args := [.int .i64 s0.f3, .int .i64 m]) Try.func40 (by kernel_rfl) rfl rfl ?_
 refine (white_Mask.calls _ _ r1 0 _ HM.out).mono ?_
 rintro e w4 ⟨rfl, hb⟩
 refine ⟨_, rfl, ?_⟩
 have B5 := hb.below
 have S6 := S0.call B5
 have HBn := Aside0.mk (below_step HB.out B5)
 clear HB
 have HB := HBn
 clear HBn
 refine qv (v := .tuple #[.int .i64 r1, .int .i64 0]) (r_move rfl) ?_
 refine qv (v := .int .i64 r1) (r_extract rfl rfl) ?_
 refine qv (v := .int .i64 0) (r_extract rfl rfl) ?_
 refine qv (v := .int .i64 r1) (r_assign rfl) ?_
 refine qv (v := .int .i64 0) (r_assign rfl) ?_
 refine q_nil ?_
 refine x_seq ?_
 refine s_seq ?_
 refine s_seq ?_
 refine s_region ?_
 refine qv (v := .int .i64 0) (r_move rfl) ?_
 refine qv (v := .bool true) (r_eql rfl rfl (beq_t (by omega))) ?_
 refine q_nil ?_
 refine x_seq ?_
 refine s_true rfl ?_
 refine s_region ?_
 refine qv (v := .pointer (some ⟨q, 0, none⟩)) (r_move rfl) ?_
 refine qv (v := .int .i64 r1) (r_move rfl) ?_
 refine qv (v := .pointer (some ⟨q, 0, none⟩)) (r_nilCheck rfl) ?_
 refine qv (v := .pointer (some ⟨q, 4, none⟩)) (r_field fld_28_3 rfl rfl) ?_
 refine qo ?_
 refine e_store (vs := [.int .i64 r1]) (cs' := [.int .i64 s0.f0, .int .u32 s0.f1, .bool s0.f2.f0, .slice A0 s0.f2.f1.length c0, .int .i64 r1]) S6 rfl rfl rfl rfl sz_3 0 rfl (.inr rfl) rfl rfl rfl ?_
 intro w7 S8 E9
 refine q_nil ?_
 refine x_seq ?_
 refine s_seq ?_
 refine s_region ?_
 refine qv (v := .int .i64 0) (r_move rfl) ?_
 refine qv (v := .int .i64 0) (r_assign rfl) ?_
 refine q_nil ?_
 refine x_seq ?_
 refine s_ret ?_
 refine t_ret1 (v := .int .i64 0) rfl rfl ?_
 exact ⟨rfl, HT.out.at_slot HQ.out ⟨s0.f0, s0.f1, s0.f2, r1⟩ (fun k hk h1 h2 => S8.ext.block k h1 h2) ⟨A0, c0, S8.blk 0 rfl, slot_row HR0.out HB0.out (S8.ext)⟩, S8.ext⟩
set_option maxHeartbeats 8000000 in
set_option maxRecDepth 100000 in
theorem LimitFcntls_bad {w : World} {b g p : Nat} {ok : Nat → Prop} {qs : List (Option Nat)} {ss : List (Option Slot)} (h : TabAt w b ok g p qs ss) (fd : Int) (h0 : 0 ≤ fd) {q : Nat} (hq : qs[fd.toNat]? = some (some q)) (s0 : Slot) (hs0 : ss[fd.toNat]? = some (some s0)) (m r1 r2 : Int) (hm : white_Mask.f s0.f3 m = some (r1, r2)) (he : r2 ≠ 0) :
  Calls Try.prog 16 #[.pointer (some ⟨g, 0, none⟩), .int .i64 fd, .int .i64 m] w fun e w' => e = .returned (.int .i64 r2) ∧ Below w.heap.size w w' := by
 have HT := Aside0.mk h
 have HQ := Aside0.mk hq
 obtain ⟨_, _, s1, hs1, A0, c0, hb0, hr0⟩ := h.som fd.toNat q hq
 rw [hs0] at hs1
 obtain rfl := Option.some.inj (Option.some.inj hs1)
 have HR0 := Aside0.mk hr0
 have HB0 := Aside0.mk hb0
 have HM := Aside0.mk hm
 have S0 := (St.start w no).add hb0 (fun x hx => by cases hx)
 have HB := Aside0.mk (Below.refl w.heap.size w)
 clear hs1 hb0 hr0 hq hm
 refine s_enter (n := 35) (L := [(0, .pointer (some ⟨g, 0, none⟩)), (1, .int .i64 fd), (2, .int .i64 m)]) Try.func16 rfl rfl rfl rfl ?_
 refine s_seq ?_
 refine s_region ?_
 refine qv (v := .int .i64 0) (r_assign rfl) ?_
 refine q_nil ?_
 refine x_seq ?_
 refine s_seq ?_
 refine s_region ?_
 refine qv (v := .pointer (some ⟨g, 0, none⟩)) (r_move rfl) ?_
 refine qv (v := .int .i64 fd) (r_move rfl) ?_
 refine qo ?_
 refine e_call (args := [.pointer (some ⟨g, 0, none⟩), .int .i64 fd]) Try.func36 (by kernel_rfl) rfl rfl ?_
 refine (get_ok (HT.out.below HB.out) fd h0 HQ.out).mono ?_
 rintro e w1 ⟨rfl, rfl⟩
 refine ⟨_, rfl, ?_⟩
 refine qv (v := .tuple #[.pointer (some ⟨q, 0, none⟩), .int .i64 0]) (r_move rfl) ?_
 refine qv (v := .pointer (some ⟨q, 0, none⟩)) (r_extract rfl rfl) ?_
 refine qv (v := .int .i64 0) (r_extract rfl rfl) ?_
 refine qv (v := .pointer (some ⟨q, 0, none⟩)) (r_assign rfl) ?_
 refine qv (v := .int .i64 0) (r_assign rfl) ?_
 refine q_nil ?_
 refine x_seq ?_
 refine s_seq ?_
 refine s_seq ?_
 refine s_region ?_
 refine qv (v := .int .i64 0) (r_move rfl) ?_
 refine qv (v := .bool false) (r_neq rfl rfl (bne_f (by omega))) ?_
 refine q_nil ?_
 refine x_seq ?_
 refine s_false rfl ?_
 refine s_skip ?_
 refine x_seq ?_
 refine s_seq ?_
 refine s_region ?_
 refine qv (v := .pointer (some ⟨q, 0, none⟩)) (r_move rfl) ?_
 refine qv (v := .pointer (some ⟨q, 0, none⟩)) (r_nilCheck rfl) ?_
 refine qv (v := .pointer (some ⟨q, 4, none⟩)) (r_field fld_28_3 rfl rfl) ?_
 refine qv (v := .int .i64 s0.f3) (r_load1 sz_3 rfl (S0.cell 0 rfl rfl)) ?_
 refine qv (v := .int .i64 m) (r_move rfl) ?_
 refine qo ?_
 refine e_call (args := [.int .i64 s0.f3, .int .i64 m]) Try.func40 (by kernel_rfl) rfl rfl ?_
 refine (white_Mask.calls _ _ r1 r2 _ HM.out).mono ?_
 rintro e w4 ⟨rfl, hb⟩
 refine ⟨_, rfl, ?_⟩
 have B5 := hb.below
 have S6 := S0.call B5
 have HBn := Aside0.mk (below_step HB.out B5)
 clear HB
 have HB := HBn
 clear HBn
 refine qv (v := .tuple #[.int .i64 r1, .int .i64 r2]) (r_move rfl) ?_
 refine qv (v := .int .i64 r1) (r_extract rfl rfl) ?_
 refine qv (v := .int .i64 r2) (r_extract rfl rfl) ?_
 refine qv (v := .int .i64 r1) (r_assign rfl) ?_
 refine qv (v := .int .i64 r2) (r_assign rfl) ?_
 refine q_nil ?_
 refine x_seq ?_
 refine s_seq ?_
 refine s_seq ?_
 refine s_region ?_
 refine qv (v := .int .i64 r2) (r_move rfl) ?_
 refine qv (v := .bool false) (r_eql rfl rfl (beq_f (he))) ?_
 refine q_nil ?_
 refine x_seq ?_
 refine s_false rfl ?_
 refine s_skip ?_
 refine x_seq ?_
 refine s_seq ?_
 refine s_region ?_
 refine qv (v := .int .i64 r2) (r_move rfl) ?_
 refine qv (v := .int .i64 r2) (r_assign rfl) ?_
 refine q_nil ?_
 refine x_seq ?_
 refine s_ret ?_
 refine t_ret1 (v := .int .i64 r2) rfl rfl ?_
 exact ⟨rfl, S6.ext.below⟩
set_option maxHeartbeats 8000000 in
set_option maxRecDepth 100000 in
theorem LimitIoctls_ok {w : World} {b g p : Nat} {ok : Nat → Prop} {qs : List (Option Nat)} {ss : List (Option Slot)} (h : TabAt w b ok g p qs ss) (fd : Int) (h0 : 0 ≤ fd) {q : Nat} (hq : qs[fd.toNat]? = some (some q)) (s0 : Slot) (hs0 : ss[fd.toNat]? = some (some s0)) (hok : ∀ k, w.heap.size ≤ k → ok k) (k : Nat) (A : Option Addr) (l : List Int) (c : Nat) (ha : Kd.C (Kd.int .i64) w A l.length l) (hc : l.length ≤ c) (r1 : Bool) (r2 : List Int) (hL : white_Limit.f k s0.f2.f0 s0.f2.f1 l = some (r1, r2, 0)) :
  Calls Try.prog 15 #[.pointer (some ⟨g, 0, none⟩), .int .i64 fd, .slice A l.length c] w fun e w' => e = .returned (.int .i64 0) ∧ TabAt w' b ok g p qs (ss.set fd.toNat (some ⟨s0.f0, s0.f1, ⟨r1, r2⟩, s0.f3⟩)) ∧ Ext (fun k => k = q) w w' := by
 have HT := Aside0.mk h
 have HQ := Aside0.mk hq
 obtain ⟨_, _, s1, hs1, A0, c0, hb0, hr0⟩ := h.som fd.toNat q hq
 rw [hs0] at hs1
 obtain rfl := Option.some.inj (Option.some.inj hs1)
 have HR0 := Aside0.mk hr0
 have HB0 := Aside0.mk hb0
 have HA := Aside0.mk ha
 have HC := Aside0.mk hc
 have HL := Aside0.mk hL
 have HOK := Aside0.mk hok
 have S0 := (St.start w (fun k => k = q)).add hb0 (fun x hx => by cases hx)
 have HB := Aside0.mk (Below.refl w.heap.size w)
 clear hs1 hb0 hr0 hq hL
 refine s_enter (n := 35) (L := [(0, .pointer (some ⟨g, 0, none⟩)), (1, .int .i64 fd), (2, .slice A l.length c)]) Try.func15 rfl rfl rfl rfl ?_
 refine s_seq ?_
 refine s_region ?_
 refine qv (v := .int .i64 0) (r_assign rfl) ?_
 refine q_nil ?_
 refine x_seq ?_
 refine s_seq ?_
 refine s_region ?_
 refine qv (v := .pointer (some ⟨g, 0, none⟩)) (r_move rfl) ?_
 refine qv (v := .int .i64 fd) (r_move rfl) ?_
 refine qo ?_
 refine e_call (args := [.pointer (some ⟨g, 0, none⟩), .int .i64 fd]) Try.func36 (by kernel_rfl) rfl rfl ?_
 refine (get_ok (HT.out.below HB.out) fd h0 HQ.out).mono ?_
 rintro e w1 ⟨rfl, rfl⟩
 refine ⟨_, rfl, ?_⟩
 refine qv (v := .tuple #[.pointer (some ⟨q, 0, none⟩), .int .i64 0]) (r_move rfl) ?_
 refine qv (v := .pointer (some ⟨q, 0, none⟩)) (r_extract rfl rfl) ?_
 refine qv (v := .int .i64 0) (r_extract rfl rfl) ?_
 refine qv (v := .pointer (some ⟨q, 0, none⟩)) (r_assign rfl) ?_
 refine qv (v := .int .i64 0) (r_assign rfl) ?_
 refine q_nil ?_
 refine x_seq ?_
 refine s_seq ?_
 refine s_seq ?_
 refine s_region ?_
 refine qv (v := .int .i64 0) (r_move rfl) ?_
 refine qv (v := .bool false) (r_neq rfl rfl (bne_f (by omega))) ?_
 refine q_nil ?_
 refine x_seq ?_
 refine s_false rfl ?_
 refine s_skip ?_
 refine x_seq ?_
 refine s_seq ?_
 refine s_region ?_
 refine qv (v := .pointer (some ⟨q, 0, none⟩)) (r_move rfl) ?_
 refine qv (v := .pointer (some ⟨q, 0, none⟩)) (r_nilCheck rfl) ?_
 refine qv (v := .pointer (some ⟨q, 2, none⟩)) (r_field fld_28_2 rfl rfl) ?_
 refine qv (v := .agg #[.bool s0.f2.f0, .slice A0 s0.f2.f1.length c0]) (r_loadN (vs := [.bool s0.f2.f0, .slice A0 s0.f2.f1.length c0]) sz_26 rfl (S0.blk 0 rfl) rfl rfl) ?_
 refine qv (v := .slice A l.length c) (r_move rfl) ?_
 refine qo ?_
 refine e_call (args := [.agg #[.bool s0.f2.f0, .slice A0 s0.f2.f1.length c0], .slice A l.length c]) Try.func39 (by kernel_rfl) rfl rfl ?_
 have HBo := HB
 refine (white_Limit.calls k _ _ _ _ _ _ _ r1 r2 0 _ (Kd.C_below (R_C HR0.out).2 HB.out) (R_C HR0.out).1 (Kd.C_below HA.out HB.out) HC.out HL.out).mono ?_
 rintro e w4 ⟨v, rfl, ho, hb⟩
 obtain ⟨Av, cv, rfl⟩ := Kd.R_slice ho
 refine ⟨_, rfl, ?_⟩
 have B5 := hb
 have S6 := S0.call B5
 have HBn := Aside0.mk (below_step HB.out B5)
 clear HB
 have HB := HBn
 clear HBn
 have HO := Aside0.mk (row_for (b := b) (ok := ok) (Kd.R_lower ho (Nat.le_refl _)) (Nat.le_trans (tab_low HT.out) (HBo.out.size)) (fun k hk => HOK.out k (Nat.le_trans HBo.out.size hk)))
 refine qv (v := .tuple #[.agg #[.bool r1, .slice Av r2.length cv], .int .i64 0]) (r_move rfl) ?_
 refine qv (v := .agg #[.bool r1, .slice Av r2.length cv]) (r_extract rfl rfl) ?_
 refine qv (v := .int .i64 0) (r_extract rfl rfl) ?_
 refine qo ?_
 refine e_alloc S6 zro_26 ?_
 intro g7 w8 hg7 S9 B10
 have HBn := Aside0.mk (below_step HB.out B10)
 clear HB
 have HB := HBn
 clear HBn
 have HOn := Aside0.mk (R_below HO.out B10)
 clear HO
 have HO := HOn
 clear HOn
 refine qo ?_
 refine e_store (vs := [.bool r1, .slice Av r2.length cv]) (cs' := [.bool r1, .slice Av r2.length cv]) S9 rfl rfl rfl rfl sz_26 0 rfl (.inl rfl) rfl rfl rfl ?_
 intro w11 S12 E13
 have HOn := Aside0.mk (R_ext HO.out E13 (S9.blk 0 rfl) (by decide))
 clear HO
 have HO := HOn
 clear HOn
 refine qv (v := .int .i64 0) (r_assign rfl) ?_
 refine q_nil ?_
 refine x_seq ?_
 refine s_seq ?_
 refine s_seq ?_
 refine s_region ?_
 refine qv (v := .int .i64 0) (r_move rfl) ?_
 refine qv (v := .bool true) (r_eql rfl rfl (beq_t (by omega))) ?_
 refine q_nil ?_
 refine x_seq ?_
 refine s_true rfl ?_
 refine s_region ?_
 refine qv (v := .pointer (some ⟨q, 0, none⟩)) (r_move rfl) ?_
 refine qv (v := .agg #[.bool r1, .slice Av r2.length cv]) (r_loadN (vs := [.bool r1, .slice Av r2.length cv]) sz_26 rfl (S12.blk 0 rfl) rfl rfl) ?_
 refine qv (v := .pointer (some ⟨q, 0, none⟩)) (r_nilCheck rfl) ?_
 refine qv (v := .pointer (some ⟨q, 2, none⟩)) (r_field fld_28_2 rfl rfl) ?_
 refine qo ?_
 refine e_store (vs := [.bool r1, .slice Av r2.length cv]) (cs' := [.int .i64 s0.f0, .int .u32 s0.f1, .bool r1, .slice Av r2.length cv, .int .i64 s0.f3]) S12 rfl rfl rfl rfl sz_26 1 rfl (.inr rfl) rfl rfl rfl ?_
 intro w14 S15 E16
 have HOn := Aside0.mk (R_ext HO.out E16 (S12.blk 1 rfl) (by decide))
 clear HO
 have HO := HOn
 clear HOn
 refine q_nil ?_
 refine x_seq ?_
 refine s_seq ?_
 refine s_region ?_
 refine qv (v := .int .i64 0) (r_move rfl) ?_
 refine qv (v := .int .i64 0) (r_assign rfl) ?_
 refine q_nil ?_
 refine x_seq ?_
 refine s_ret ?_
 refine t_ret1 (v := .int .i64 0) rfl rfl ?_
 exact ⟨rfl, HT.out.at_slot HQ.out ⟨s0.f0, s0.f1, ⟨r1, r2⟩, s0.f3⟩ (fun k hk h1 h2 => S15.ext.block k h1 h2) ⟨Av, cv, S15.blk 1 rfl, HO.out⟩, S15.ext⟩
set_option maxHeartbeats 8000000 in
set_option maxRecDepth 100000 in
theorem LimitIoctls_bad {w : World} {b g p : Nat} {ok : Nat → Prop} {qs : List (Option Nat)} {ss : List (Option Slot)} (h : TabAt w b ok g p qs ss) (fd : Int) (h0 : 0 ≤ fd) {q : Nat} (hq : qs[fd.toNat]? = some (some q)) (s0 : Slot) (hs0 : ss[fd.toNat]? = some (some s0)) (k : Nat) (A : Option Addr) (l : List Int) (c : Nat) (ha : Kd.C (Kd.int .i64) w A l.length l) (hc : l.length ≤ c) (r1 : Bool) (r2 : List Int) (r3 : Int) (hL : white_Limit.f k s0.f2.f0 s0.f2.f1 l = some (r1, r2, r3)) (he : r3 ≠ 0) :
  Calls Try.prog 15 #[.pointer (some ⟨g, 0, none⟩), .int .i64 fd, .slice A l.length c] w fun e w' => e = .returned (.int .i64 r3) ∧ Below w.heap.size w w' := by
 have HT := Aside0.mk h
 have HQ := Aside0.mk hq
 obtain ⟨_, _, s1, hs1, A0, c0, hb0, hr0⟩ := h.som fd.toNat q hq
 rw [hs0] at hs1
 obtain rfl := Option.some.inj (Option.some.inj hs1)
 have HR0 := Aside0.mk hr0
 have HB0 := Aside0.mk hb0
 have HA := Aside0.mk ha
 have HC := Aside0.mk hc
 have HL := Aside0.mk hL
 have S0 := (St.start w no).add hb0 (fun x hx => by cases hx)
 have HB := Aside0.mk (Below.refl w.heap.size w)
 clear hs1 hb0 hr0 hq hL
 refine s_enter (n := 35) (L := [(0, .pointer (some ⟨g, 0, none⟩)), (1, .int .i64 fd), (2, .slice A l.length c)]) Try.func15 rfl rfl rfl rfl ?_
 refine s_seq ?_
 refine s_region ?_
 refine qv (v := .int .i64 0) (r_assign rfl) ?_
 refine q_nil ?_
 refine x_seq ?_
 refine s_seq ?_
 refine s_region ?_
 refine qv (v := .pointer (some ⟨g, 0, none⟩)) (r_move rfl) ?_
 refine qv (v := .int .i64 fd) (r_move rfl) ?_
 refine qo ?_
 refine e_call (args := [.pointer (some ⟨g, 0, none⟩), .int .i64 fd]) Try.func36 (by kernel_rfl) rfl rfl ?_
 refine (get_ok (HT.out.below HB.out) fd h0 HQ.out).mono ?_
 rintro e w1 ⟨rfl, rfl⟩
 refine ⟨_, rfl, ?_⟩
 refine qv (v := .tuple #[.pointer (some ⟨q, 0, none⟩), .int .i64 0]) (r_move rfl) ?_
 refine qv (v := .pointer (some ⟨q, 0, none⟩)) (r_extract rfl rfl) ?_
 refine qv (v := .int .i64 0) (r_extract rfl rfl) ?_
 refine qv (v := .pointer (some ⟨q, 0, none⟩)) (r_assign rfl) ?_
 refine qv (v := .int .i64 0) (r_assign rfl) ?_
 refine q_nil ?_
 refine x_seq ?_
 refine s_seq ?_
 refine s_seq ?_
 refine s_region ?_
 refine qv (v := .int .i64 0) (r_move rfl) ?_
 refine qv (v := .bool false) (r_neq rfl rfl (bne_f (by omega))) ?_
 refine q_nil ?_
 refine x_seq ?_
 refine s_false rfl ?_
 refine s_skip ?_
 refine x_seq ?_
 refine s_seq ?_
 refine s_region ?_
 refine qv (v := .pointer (some ⟨q, 0, none⟩)) (r_move rfl) ?_
 refine qv (v := .pointer (some ⟨q, 0, none⟩)) (r_nilCheck rfl) ?_
 refine qv (v := .pointer (some ⟨q, 2, none⟩)) (r_field fld_28_2 rfl rfl) ?_
 refine qv (v := .agg #[.bool s0.f2.f0, .slice A0 s0.f2.f1.length c0]) (r_loadN (vs := [.bool s0.f2.f0, .slice A0 s0.f2.f1.length c0]) sz_26 rfl (S0.blk 0 rfl) rfl rfl) ?_
 refine qv (v := .slice A l.length c) (r_move rfl) ?_
 refine qo ?_
 refine e_call (args := [.agg #[.bool s0.f2.f0, .slice A0 s0.f2.f1.length c0], .slice A l.length c]) Try.func39 (by kernel_rfl) rfl rfl ?_
 have HBo := HB
 refine (white_Limit.calls k _ _ _ _ _ _ _ r1 r2 r3 _ (Kd.C_below (R_C HR0.out).2 HB.out) (R_C HR0.out).1 (Kd.C_below HA.out HB.out) HC.out HL.out).mono ?_
 rintro e w4 ⟨v, rfl, ho, hb⟩
 obtain ⟨Av, cv, rfl⟩ := Kd.R_slice ho
 refine ⟨_, rfl, ?_⟩
 have B5 := hb
 have S6 := S0.call B5
 have HBn := Aside0.mk (below_step HB.out B5)
 clear HB
 have HB := HBn
 clear HBn
 refine qv (v := .tuple #[.agg #[.bool r1, .slice Av r2.length cv], .int .i64 r3]) (r_move rfl) ?_
 refine qv (v := .agg #[.bool r1, .slice Av r2.length cv]) (r_extract rfl rfl) ?_
 refine qv (v := .int .i64 r3) (r_extract rfl rfl) ?_
 refine qo ?_
 refine e_alloc S6 zro_26 ?_
 intro g7 w8 hg7 S9 B10
 have HBn := Aside0.mk (below_step HB.out B10)
 clear HB
 have HB := HBn
 clear HBn
 refine qo ?_
 refine e_store (vs := [.bool r1, .slice Av r2.length cv]) (cs' := [.bool r1, .slice Av r2.length cv]) S9 rfl rfl rfl rfl sz_26 0 rfl (.inl rfl) rfl rfl rfl ?_
 intro w11 S12 E13
 refine qv (v := .int .i64 r3) (r_assign rfl) ?_
 refine q_nil ?_
 refine x_seq ?_
 refine s_seq ?_
 refine s_seq ?_
 refine s_region ?_
 refine qv (v := .int .i64 r3) (r_move rfl) ?_
 refine qv (v := .bool false) (r_eql rfl rfl (beq_f (he))) ?_
 refine q_nil ?_
 refine x_seq ?_
 refine s_false rfl ?_
 refine s_skip ?_
 refine x_seq ?_
 refine s_seq ?_
 refine s_region ?_
 refine qv (v := .int .i64 r3) (r_move rfl) ?_
 refine qv (v := .int .i64 r3) (r_assign rfl) ?_
 refine q_nil ?_
 refine x_seq ?_
 refine s_ret ?_
 refine t_ret1 (v := .int .i64 r3) rfl rfl ?_
 exact ⟨rfl, S12.ext.below⟩
end Go.Proofs.Ytilfalpfanaanaa.PA

namespace Go.Proofs.Ytilfalpfanaanaa.PA
open Go.RowKit Go.Proofs.YtilfalpfanaanaaW.PrintWords Go.Proofs.YtilfalpfanaanaaW.PrintLast Go.Proofs.YtilfalpfanaanaaW.PrintMore Go.Proofs.Ytilfalpfanaanaa.Sx
set_option maxHeartbeats 8000000 in
set_option maxRecDepth 100000 in
theorem All_ok {w : World} {b g p : Nat} {ok : Nat → Prop} {qs : List (Option Nat)} {ss : List (Option Slot)} (h : TabAt w b ok g p qs ss) : Calls Try.prog 28 #[.pointer (some ⟨g, 0, none⟩)] w fun e w' => ∃ v, e = .returned v ∧ Kd.R (Kd.int .i64) 3 w' w.heap.size (fun _ => True) v (idxs ss ss.length) ∧ Below w.heap.size w w' := by
 have HT := Aside0.mk h
 have S0 := tab_st h no
 have hfew := h.few.2
 clear h
 refine s_enter (n := 26) (L := [(0, .pointer (some ⟨g, 0, none⟩))]) Try.func28 rfl rfl rfl rfl ?_
 refine s_seq ?_
 refine s_region ?_
 refine qv (v := .slice none 0 0) (r_assign rfl) ?_
 refine q_nil ?_
 refine x_seq ?_
 refine s_seq ?_
 refine s_seq ?_
 refine s_region ?_
 refine qv (v := .pointer (some ⟨g, 0, none⟩)) (r_move rfl) ?_
 refine qv (v := .bool false) (r_peql ptr_31 rfl rfl rfl) ?_
 refine q_nil ?_
 refine x_seq ?_
 refine s_false rfl ?_
 refine s_skip ?_
 refine x_seq ?_
 refine s_seq ?_
 refine s_region ?_
 refine qv (v := .slice none 0 0) (r_assign rfl) ?_
 refine q_nil ?_
 refine x_seq ?_
 refine s_seq ?_
 refine s_seq ?_
 refine s_region ?_
 refine qv (v := .pointer (some ⟨g, 0, none⟩)) (r_move rfl) ?_
 refine qv (v := .pointer (some ⟨g, 0, none⟩)) (r_nilCheck rfl) ?_
 refine qv (v := .pointer (some ⟨g, 0, none⟩)) (r_field fld_67_0 rfl rfl) ?_
 refine qv (v := .slice (some ⟨p, 0, none⟩) qs.length qs.length) (r_load1 sz_65 rfl (S0.cell 0 rfl rfl)) ?_
 refine qv (v := .int .i64 ((qs.length : Nat) : Int)) (r_len_slice elm_65 rfl) ?_
 refine qv (v := .int .i64 0) (r_move rfl) ?_
 refine q_nil ?_
 refine x_seq ?_
 refine s_block ?_
 refine s_front [(3, .slice none 0 0), (11, .slice (some ⟨p, 0, none⟩) qs.length qs.length), (12, .int .i64 ((qs.length : Nat) : Int)), (13, .int .i64 0)] ⟨rfl, rfl, rfl, rfl, trivial⟩ ?_
 refine s_loop (fun m_ L_ W_ => ∃ (U : List (Nat × Value)) (k : Nat) (v : Value), L_ = (3, v) :: (11, .slice (some ⟨p, 0, none⟩) qs.length qs.length) :: (12, .int .i64 ((qs.length : Nat) : Int)) :: (13, .int .i64 ((k : Nat) : Int)) :: U ∧ St w no W_ [⟨g, false, .cells #[.slice (some ⟨p, 0, none⟩) qs.length qs.length] 67 (0, 0)⟩, ⟨p, false, (.cells (qs.map ptrV).toArray 71 (0, 0))⟩] ∧ k ≤ qs.length ∧ Kd.R (Kd.int .i64) 3 W_ w.heap.size (fun _ => True) v (idxs ss k) ∧ m_ = qs.length - k) _ ⟨_, 0, .slice none 0 0, rfl, S0, Nat.zero_le _, Kd.R_nil _ _ _ _ _, rfl⟩ ?_
 rintro m3 L4 w1 ⟨U, k, v, rfl, S2, hk0, hR, rfl⟩
 have HR := Aside0.mk hR
 clear hR
 refine s_seq ?_
 refine s_region ?_
 by_cases hk : ((((k : Nat) : Int) : Int) < ((qs.length : Nat) : Int))
 ·skip
  refine qv (v := .bool true) (r_lss rfl rfl (decide_eq_true (hk))) ?_
  refine q_nil ?_
  refine x_seq ?_
  refine s_seq ?_
  refine s_true rfl ?_
  refine s_skip ?_
  refine x_seq ?_
  refine s_seq ?_
  refine s_block ?_
  refine s_seq ?_
  refine s_region ?_
  refine qv (v := .int .i64 ((k : Nat) : Int)) (r_move rfl) ?_
  refine qv (v := .pointer (some ⟨p, k, none⟩)) (r_index elm_65 rfl rfl (by omega) (by omega) (by omega)) ?_
  have hlt_ : k < qs.length := by omega
  obtain ⟨x, hx⟩ : ∃ x, qs[k]? = some x := ⟨qs[k], List.getElem?_eq_getElem hlt_⟩
  rcases x with _ | q
  ·skip
   have HQ := Aside0.mk (show (qs.map ptrV)[k]? = some (.pointer none) by simp [hx, ptrV])
   have HX := Aside0.mk hx
   clear hx
   refine qv (v := .pointer none) (r_load1 sz_71 rfl (cell_at (S2.blk 1 rfl) HQ.out)) ?_
   refine qv (v := .int .i64 ((k : Nat) : Int)) (r_assign rfl) ?_
   refine qv (v := .pointer none) (r_assign rfl) ?_
   refine q_nil ?_
   refine x_seq ?_
   refine s_seq ?_
   refine s_region ?_
   refine qv (v := .pointer none) (r_move rfl) ?_
   refine qv (v := .bool false) (r_pneq ptr_71 rfl rfl rfl) ?_
   refine q_nil ?_
   refine x_seq ?_
   refine s_false rfl ?_
   refine s_skip ?_
   refine x_blk ?_
   refine x_seq ?_
   refine s_region ?_
   refine qv (v := .int .i64 ((k + 1 : Nat) : Int)) (r_add rfl rfl (w_succ (by omega))) ?_
   refine qv (v := .int .i64 ((k + 1 : Nat) : Int)) (r_move rfl) ?_
   refine q_nil ?_
   exact x_loop _ [(3, v), (11, .slice (some ⟨p, 0, none⟩) qs.length qs.length), (12, .int .i64 ((qs.length : Nat) : Int)), (13, .int .i64 ((k + 1 : Nat) : Int))] ⟨rfl, rfl, rfl, rfl, trivial⟩ (by omega) ⟨_, k + 1, v, rfl, S2, by omega, (by have h_ := HR.out; rw [← idxs_none ss k (HT.out.non k HX.out)] at h_; exact h_), rfl⟩
  ·skip
   have HQ := Aside0.mk (show (qs.map ptrV)[k]? = some (.pointer (some ⟨q, 0, none⟩)) by simp [hx, ptrV])
   have HX := Aside0.mk hx
   clear hx
   refine qv (v := .pointer (some ⟨q, 0, none⟩)) (r_load1 sz_71 rfl (cell_at (S2.blk 1 rfl) HQ.out)) ?_
   refine qv (v := .int .i64 ((k : Nat) : Int)) (r_assign rfl) ?_
   refine qv (v := .pointer (some ⟨q, 0, none⟩)) (r_assign rfl) ?_
   refine q_nil ?_
   refine x_seq ?_
   refine s_seq ?_
   refine s_region ?_
   refine qv (v := .pointer (some ⟨q, 0, none⟩)) (r_move rfl) ?_
   refine qv (v := .bool true) (r_pneq ptr_71 rfl rfl rfl) ?_
   refine q_nil ?_
   refine x_seq ?_
   refine s_true rfl ?_
   refine s_region ?_
   refine qv (v := v) (r_move rfl) ?_
   refine qv (v := .int .i64 ((k : Nat) : Int)) (r_move rfl) ?_
   refine qo ?_
   refine e_new (vf := fun g => .slice (some ⟨g, 0, none⟩) 1 1) (ob := .cells #[.int .i64 ((k : Nat) : Int)] 3) rfl S2 (r_buildSlice (ps := [(0, .int .i64 ((k : Nat) : Int))]) rfl (by kernel_rfl)) ?_
   intro g5 w6 hg5 S7 B8
   have HRn := Aside0.mk (R_below HR.out B8)
   clear HR
   have HR := HRn
   clear HRn
   refine qo ?_
   obtain ⟨v9, w9, hr9, HRa9, E9⟩ := append_int (g := g5) 24 HR.out (S7.blk 0 rfl) (by have := idxs_le ss k; omega) (S7.ext.size)
   refine e_val (v := v9) rfl (r_append rfl rfl hr9) ?_
   have S9 := St_append (S7.sub (List.sublist_cons_self _ _)) HR.out (tab_lows HT.out) E9
   refine qv (v := v9) (r_assign rfl) ?_
   refine q_nil ?_
   refine x_blk ?_
   refine x_seq ?_
   refine s_region ?_
   refine qv (v := .int .i64 ((k + 1 : Nat) : Int)) (r_add rfl rfl (w_succ (by omega))) ?_
   refine qv (v := .int .i64 ((k + 1 : Nat) : Int)) (r_move rfl) ?_
   refine q_nil ?_
   exact x_loop _ [(3, v9), (11, .slice (some ⟨p, 0, none⟩) qs.length qs.length), (12, .int .i64 ((qs.length : Nat) : Int)), (13, .int .i64 ((k + 1 : Nat) : Int))] ⟨rfl, rfl, rfl, rfl, trivial⟩ (by omega) ⟨_, k + 1, v9, rfl, S9, by omega, (by have h_ := HRa9; rw [← idxs_some ss k (tab_some HT.out HX.out)] at h_; exact h_), rfl⟩
 ·skip
  refine qv (v := .bool false) (r_lss rfl rfl (decide_eq_false (hk))) ?_
  refine q_nil ?_
  refine x_seq ?_
  refine s_seq ?_
  refine s_false rfl ?_
  refine s_exit ?_
  refine x_seq_exit ?_
  refine x_seq_exit ?_
  refine x_blk_exit ?_
  refine x_seq ?_
  refine s_seq ?_
  refine s_region ?_
  refine qv (v := v) (r_move rfl) ?_
  refine qv (v := v) (r_assign rfl) ?_
  refine q_nil ?_
  refine x_seq ?_
  refine s_ret ?_
  refine t_ret1 (v := v) rfl rfl ?_
  obtain rfl : k = qs.length := by omega
  have hR := HR.out
  rw [← HT.out.len] at hR
  exact ⟨v, rfl, hR, S2.ext.below⟩
set_option maxHeartbeats 8000000 in
set_option maxRecDepth 100000 in
theorem Room_ok {w : World} {b g p : Nat} {ok : Nat → Prop} {qs : List (Option Nat)} {ss : List (Option Slot)} (h : TabAt w b ok g p qs ss) : Calls Try.prog 27 #[.pointer (some ⟨g, 0, none⟩)] w fun e w' => e = .returned (.int .i64 ((ss.length - (idxs ss ss.length).length : Nat) : Int)) ∧ Below w.heap.size w w' := by
 have HT := Aside0.mk h
 have S0 := tab_st h no
 have hfew := h.few.2
 clear h
 refine s_enter (n := 14) (L := [(0, .pointer (some ⟨g, 0, none⟩))]) Try.func27 rfl rfl rfl rfl ?_
 refine s_seq ?_
 refine s_region ?_
 refine qv (v := .int .i64 0) (r_assign rfl) ?_
 refine q_nil ?_
 refine x_seq ?_
 refine s_seq ?_
 refine s_seq ?_
 refine s_region ?_
 refine qv (v := .pointer (some ⟨g, 0, none⟩)) (r_move rfl) ?_
 refine qv (v := .bool false) (r_peql ptr_31 rfl rfl rfl) ?_
 refine q_nil ?_
 refine x_seq ?_
 refine s_false rfl ?_
 refine s_skip ?_
 refine x_seq ?_
 refine s_seq ?_
 refine d_start mix (fun W => St w no W [⟨g, false, .cells #[.slice (some ⟨p, 0, none⟩) qs.length qs.length] 67 (0, 0)⟩, ⟨p, false, (.cells (qs.map ptrV).toArray 71 (0, 0))⟩]) ?_
 have S1 := S0.draw
 generalize w.drew = w2 at S1  ⊢
 refine dt 10 1 (v := .pointer (some ⟨g, 0, none⟩)) 0 rfl rfl (wn rfl) (fun W hW => r_move rfl) S1 ?_
 refine dt 10 3 (v := .pointer (some ⟨g, 0, none⟩)) 1 rfl rfl (wn rfl) (fun W hW => r_nilCheck rfl) S1 ?_
 refine dt 10 7 (v := .pointer (some ⟨g, 0, none⟩)) 2 rfl rfl (wn rfl) (fun W hW => r_field fld_67_0 rfl rfl) S1 ?_
 refine dt 10 15 (v := .slice (some ⟨p, 0, none⟩) qs.length qs.length) 3 rfl rfl (wn rfl) (fun W hW => r_load1 sz_65 rfl (hW.cell 0 rfl rfl)) S1 ?_
 refine dt 10 31 (v := .int .i64 ((qs.length : Nat) : Int)) 4 rfl rfl (wn rfl) (fun W hW => r_len_slice elm_65 rfl) S1 ?_
 refine dt 10 63 (v := .pointer (some ⟨g, 0, none⟩)) 5 rfl rfl (wn rfl) (fun W hW => r_move rfl) S1 ?_
 refine d1 10 127 6 rfl (wn rfl) ?_
 refine e_call (args := [.pointer (some ⟨g, 0, none⟩)]) Try.func28 (by kernel_rfl) rfl rfl ?_
 refine (All_ok (HT.out.below S1.ext.below)).mono ?_
 rintro e w3 ⟨v, rfl, hR, hb⟩
 obtain ⟨Av, cv, rfl⟩ := Kd.R_slice hR
 refine ⟨_, rfl, ?_⟩
 have B4 := hb
 have S5 := S1.call B4
 refine ⟨S5, ?_⟩
 refine dt 10 255 (v := .int .i64 (((idxs ss ss.length).length : Nat) : Int)) 7 rfl rfl (wn rfl) (fun W hW => r_len_slice elm_24 rfl) S5 ?_
 refine dt 10 511 (v := .int .i64 ((ss.length - (idxs ss ss.length).length : Nat) : Int)) 8 rfl rfl (wn rfl) (fun W hW => r_sub rfl rfl (by rw [w64 (by have := idxs_le ss ss.length; have := HT.out.len; omega) (by have := HT.out.len; omega)]; have := idxs_le ss ss.length; have := HT.out.len; omega)) S5 ?_
 refine dt 10 1023 (v := .int .i64 ((ss.length - (idxs ss ss.length).length : Nat) : Int)) 9 rfl rfl (wn rfl) (fun W hW => r_assign rfl) S5 ?_
 refine d_done (by kernel_rfl) ?_
 refine x_seq ?_
 refine s_ret ?_
 refine t_ret1 (v := .int .i64 ((ss.length - (idxs ss ss.length).length : Nat) : Int)) rfl rfl ?_
 exact ⟨rfl, S5.ext.below⟩
end Go.Proofs.Ytilfalpfanaanaa.PA

namespace Go.Proofs.Ytilfalpfanaanaa.PA
open Go.RowKit Go.Proofs.YtilfalpfanaanaaW.PrintWords Go.Proofs.YtilfalpfanaanaaW.PrintLast Go.Proofs.YtilfalpfanaanaaW.PrintMore Go.Proofs.Ytilfalpfanaanaa.Sx
set_option maxHeartbeats 8000000 in
set_option maxRecDepth 100000 in
theorem Clone_ok {w : World} {b g p : Nat} {ok : Nat → Prop} {qs : List (Option Nat)} {ss : List (Option Slot)} (h : TabAt w b ok g p qs ss) (hlen : ∀ (k : Nat) s, ss[k]? = some (some s) → s.f2.f1.length * 8 ≤ 140737488355328) : Calls Try.prog 24 #[.pointer (some ⟨g, 0, none⟩)] w fun e w' => ∃ g2 p2 qs2, e = .returned (.pointer (some ⟨g2, 0, none⟩)) ∧ TabAt w' w.heap.size (fun j => w.heap.size ≤ j) g2 p2 qs2 ss ∧ Below w.heap.size w w' := by
 have HT := Aside0.mk h
 have S0 := tab_st h no
 have hfew := h.few.2
 have HB := Aside0.mk (Below.refl w.heap.size w)
 clear h
 refine s_enter (n := 41) (L := [(0, .pointer (some ⟨g, 0, none⟩))]) Try.func24 rfl rfl rfl rfl ?_
 refine s_seq ?_
 refine s_region ?_
 refine qv (v := .pointer none) (r_assign rfl) ?_
 refine q_nil ?_
 refine x_seq ?_
 refine s_seq ?_
 refine s_seq ?_
 refine s_region ?_
 refine qv (v := .pointer (some ⟨g, 0, none⟩)) (r_move rfl) ?_
 refine qv (v := .bool false) (r_peql ptr_31 rfl rfl rfl) ?_
 refine q_nil ?_
 refine x_seq ?_
 refine s_false rfl ?_
 refine s_skip ?_
 refine x_seq ?_
 refine s_seq ?_
 refine s_region ?_
 refine qv (v := .pointer (some ⟨g, 0, none⟩)) (r_move rfl) ?_
 refine qv (v := .pointer (some ⟨g, 0, none⟩)) (r_nilCheck rfl) ?_
 refine qv (v := .pointer (some ⟨g, 0, none⟩)) (r_field fld_67_0 rfl rfl) ?_
 refine qv (v := .slice (some ⟨p, 0, none⟩) qs.length qs.length) (r_load1 sz_65 rfl (S0.cell 0 rfl rfl)) ?_
 refine qv (v := .int .i64 ((qs.length : Nat) : Int)) (r_len_slice elm_65 rfl) ?_
 refine qo ?_
 refine e_new (vf := fun g => .slice (some ⟨g, 0, none⟩) qs.length qs.length) (ob := .cells ((List.replicate qs.length (none : Option Nat)).map ptrV).toArray 71) rfl S0 (r_makeSlice rfl rfl (make_row qs.length (by omega) w)) ?_
 intro p2 w1 hp2 S2 B3
 have HBn := Aside0.mk (below_step HB.out B3)
 clear HB
 have HB := HBn
 clear HBn
 refine qv (v := .agg #[.slice (some ⟨p2, 0, none⟩) qs.length qs.length]) (r_build (ps := [(0, .slice (some ⟨p2, 0, none⟩) qs.length qs.length)]) rfl (by kernel_rfl)) ?_
 refine qo ?_
 refine e_box (cs := [.slice (some ⟨p2, 0, none⟩) qs.length qs.length]) S2 rfl rfl ?_
 intro g4 w5 hg4 S6 B7
 have HBn := Aside0.mk (below_step HB.out B7)
 clear HB
 have HB := HBn
 clear HBn
 refine qv (v := .pointer (some ⟨g4, 0, none⟩)) (r_assign rfl) ?_
 refine q_nil ?_
 refine x_seq ?_
 refine s_seq ?_
 refine s_seq ?_
 refine s_region ?_
 refine qv (v := .pointer (some ⟨g, 0, none⟩)) (r_move rfl) ?_
 refine qv (v := .pointer (some ⟨g, 0, none⟩)) (r_nilCheck rfl) ?_
 refine qv (v := .pointer (some ⟨g, 0, none⟩)) (r_field fld_67_0 rfl rfl) ?_
 refine qv (v := .slice (some ⟨p, 0, none⟩) qs.length qs.length) (r_load1 sz_65 rfl (S6.cell 2 rfl rfl)) ?_
 refine qv (v := .int .i64 ((qs.length : Nat) : Int)) (r_len_slice elm_65 rfl) ?_
 refine qv (v := .int .i64 0) (r_move rfl) ?_
 refine q_nil ?_
 refine x_seq ?_
 refine s_block ?_
 have HB1 := HB
 have T0 : TabAt w5 w.heap.size (fun j => w.heap.size ≤ j) g4 p2 (List.replicate qs.length none) (List.replicate qs.length none) := tab_fresh (S6.blk 0 rfl) (S6.blk 1 rfl) (by have := HT.out.few; omega) (S6.own _ (List.mem_of_getElem? (i := 0) rfl) rfl) (S6.own _ (List.mem_of_getElem? (i := 1) rfl) rfl)
 have Sx := S6.sub (σ' := []) (by simp)
 refine s_front [(3, .pointer (some ⟨g4, 0, none⟩)), (20, .slice (some ⟨p, 0, none⟩) qs.length qs.length), (21, .int .i64 ((qs.length : Nat) : Int)), (22, .int .i64 0)] ⟨rfl, rfl, rfl, rfl, trivial⟩ ?_
 refine s_loop (fun m_ L_ W_ => ∃ (U : List (Nat × Value)) (k : Nat) (qs2 : List (Option Nat)), L_ = (3, .pointer (some ⟨g4, 0, none⟩)) :: (20, .slice (some ⟨p, 0, none⟩) qs.length qs.length) :: (21, .int .i64 ((qs.length : Nat) : Int)) :: (22, .int .i64 ((k : Nat) : Int)) :: U ∧ St w no W_ [] ∧ k ≤ qs.length ∧ TabAt W_ w.heap.size (fun j => w.heap.size ≤ j) g4 p2 qs2 (ss.take k ++ List.replicate (qs.length - k) none) ∧ m_ = qs.length - k) _ ⟨_, 0, List.replicate qs.length none, rfl, Sx, Nat.zero_le _, by simpa using T0, rfl⟩ ?_
 rintro m10 L11 w8 ⟨U, k, qs2, rfl, S9, hk0, hT2, rfl⟩
 clear HB HB1 T0
 have HB := Aside0.mk (Ext.below S9.ext)
 have HT2 := Aside0.mk hT2
 clear hT2
 have hl2 : qs2.length = qs.length := by have := HT2.out.len; rw [List.length_append, List.length_take, List.length_replicate, HT.out.len] at this; omega
 have Sy := st_pair S9 HT.out HT2.out
 refine s_seq ?_
 refine s_region ?_
 by_cases hk : ((((k : Nat) : Int) : Int) < ((qs.length : Nat) : Int))
 ·skip
  refine qv (v := .bool true) (r_lss rfl rfl (decide_eq_true (hk))) ?_
  refine q_nil ?_
  refine x_seq ?_
  refine s_seq ?_
  refine s_true rfl ?_
  refine s_skip ?_
  refine x_seq ?_
  refine s_seq ?_
  refine s_block ?_
  refine s_seq ?_
  refine s_region ?_
  refine qv (v := .int .i64 ((k : Nat) : Int)) (r_move rfl) ?_
  refine qv (v := .pointer (some ⟨p, k, none⟩)) (r_index elm_65 rfl rfl (by omega) (by omega) (by omega)) ?_
  have hlt_ : k < qs.length := by omega
  obtain ⟨x, hx⟩ : ∃ x, qs[k]? = some x := ⟨qs[k], List.getElem?_eq_getElem hlt_⟩
  rcases x with _ | q
  ·skip
   have HQ := Aside0.mk (show (qs.map ptrV)[k]? = some (.pointer none) by simp [hx, ptrV])
   have HX := Aside0.mk hx
   clear hx
   refine qv (v := .pointer none) (r_load1 sz_71 rfl (cell_at (Sy.blk 2 rfl) HQ.out)) ?_
   refine qv (v := .int .i64 ((k : Nat) : Int)) (r_assign rfl) ?_
   refine qv (v := .pointer none) (r_assign rfl) ?_
   refine q_nil ?_
   refine x_seq ?_
   refine s_seq ?_
   refine s_region ?_
   refine qv (v := .pointer none) (r_move rfl) ?_
   refine qv (v := .bool false) (r_pneq ptr_71 rfl rfl rfl) ?_
   refine q_nil ?_
   refine x_seq ?_
   refine s_false rfl ?_
   refine s_skip ?_
   refine x_blk ?_
   refine x_seq ?_
   refine s_region ?_
   refine qv (v := .int .i64 ((k + 1 : Nat) : Int)) (r_add rfl rfl (w_succ (by omega))) ?_
   refine qv (v := .int .i64 ((k + 1 : Nat) : Int)) (r_move rfl) ?_
   refine q_nil ?_
   have Sz := Sy.sub (σ' := []) (by simp)
   exact x_loop _ [(3, .pointer (some ⟨g4, 0, none⟩)), (20, .slice (some ⟨p, 0, none⟩) qs.length qs.length), (21, .int .i64 ((qs.length : Nat) : Int)), (22, .int .i64 ((k + 1 : Nat) : Int))] ⟨rfl, rfl, rfl, rfl, trivial⟩ (by omega) ⟨_, k + 1, qs2, rfl, Sz, by omega, (clone_skip HT.out.len (HT.out.non k HX.out) HT2.out), rfl⟩
  ·skip
   have HQ := Aside0.mk (show (qs.map ptrV)[k]? = some (.pointer (some ⟨q, 0, none⟩)) by simp [hx, ptrV])
   have HX := Aside0.mk hx
   clear hx
   refine qv (v := .pointer (some ⟨q, 0, none⟩)) (r_load1 sz_71 rfl (cell_at (Sy.blk 2 rfl) HQ.out)) ?_
   refine qv (v := .int .i64 ((k : Nat) : Int)) (r_assign rfl) ?_
   refine qv (v := .pointer (some ⟨q, 0, none⟩)) (r_assign rfl) ?_
   refine q_nil ?_
   refine x_seq ?_
   refine s_seq ?_
   refine s_region ?_
   refine qv (v := .pointer (some ⟨q, 0, none⟩)) (r_move rfl) ?_
   refine qv (v := .bool true) (r_pneq ptr_71 rfl rfl rfl) ?_
   refine q_nil ?_
   refine x_seq ?_
   refine s_true rfl ?_
   refine s_seq ?_
   refine s_region ?_
   refine qv (v := .pointer (some ⟨q, 0, none⟩)) (r_move rfl) ?_
   refine qv (v := .pointer (some ⟨q, 0, none⟩)) (r_nilCheck rfl) ?_
   obtain ⟨_, _, s0, hs0, A0, c0, hb0, hr0⟩ := (HT.out.below HB.out).som k q HX.out
   have HR0 := Aside0.mk hr0
   have HQ0 := Aside0.mk hb0
   have HS0 := Aside0.mk hs0
   have HL := Aside0.mk (hlen k s0 hs0)
   clear hs0 hb0 hr0
   refine qv (v := .agg #[.int .i64 s0.f0, .int .u32 s0.f1, .bool s0.f2.f0, .slice A0 s0.f2.f1.length c0, .int .i64 s0.f3]) (r_loadN (vs := [.int .i64 s0.f0, .int .u32 s0.f1, .bool s0.f2.f0, .slice A0 s0.f2.f1.length c0, .int .i64 s0.f3]) sz_28 rfl HQ0.out rfl rfl) ?_
   refine qo ?_
   refine e_call (args := [.agg #[.int .i64 s0.f0, .int .u32 s0.f1, .bool s0.f2.f0, .slice A0 s0.f2.f1.length c0, .int .i64 s0.f3]]) Try.func35 (by kernel_rfl) rfl rfl ?_
   have HBo := HB
   refine (slots_own.calls _ _ _ _ _ _ _ _ _ _ _ _ _ (R_C HR0.out).2 (R_C HR0.out).1 (own_eq s0 HL.out)).mono ?_
   rintro e w12 ⟨v, rfl, ho, hb⟩
   obtain ⟨Av, cv, rfl⟩ := Kd.R_slice ho
   refine ⟨_, rfl, ?_⟩
   have B13 := hb
   have S14 := Sy.call B13
   have HBn := Aside0.mk (below_step HB.out B13)
   clear HB
   have HB := HBn
   clear HBn
   have HO := Aside0.mk (row_for (b := w.heap.size) (ok := fun j => w.heap.size ≤ j) (Kd.R_lower ho (Nat.le_refl _)) HBo.out.size (fun k hk => Nat.le_trans HBo.out.size hk))
   have HT3 := Aside0.mk (HT2.out.below B13)
   refine qo ?_
   refine e_alloc S14 zro_28 ?_
   intro g15 w16 hg15 S17 B18
   have HBn := Aside0.mk (below_step HB.out B18)
   clear HB
   have HB := HBn
   clear HBn
   have HOn := Aside0.mk (R_below HO.out B18)
   clear HO
   have HO := HOn
   clear HOn
   refine qo ?_
   refine e_store (vs := [.int .i64 s0.f0, .int .u32 s0.f1, .bool s0.f2.f0, .slice Av s0.f2.f1.length cv, .int .i64 s0.f3]) (cs' := [.int .i64 s0.f0, .int .u32 s0.f1, .bool s0.f2.f0, .slice Av s0.f2.f1.length cv, .int .i64 s0.f3]) S17 rfl rfl rfl rfl sz_28 0 rfl (.inl rfl) rfl rfl rfl ?_
   intro w19 S20 E21
   have HOn := Aside0.mk (R_ext HO.out E21 (S17.blk 0 rfl) (by decide))
   clear HO
   have HO := HOn
   clear HOn
   refine q_nil ?_
   refine x_seq ?_
   refine s_region ?_
   refine qv (v := .pointer (some ⟨g4, 0, none⟩)) (r_move rfl) ?_
   refine qv (v := .pointer (some ⟨g4, 0, none⟩)) (r_nilCheck rfl) ?_
   refine qv (v := .pointer (some ⟨g4, 0, none⟩)) (r_field fld_67_0 rfl rfl) ?_
   refine qv (v := .slice (some ⟨p2, 0, none⟩) qs2.length qs2.length) (r_load1 sz_65 rfl (S20.cell 1 rfl rfl)) ?_
   refine qv (v := .int .i64 ((k : Nat) : Int)) (r_move rfl) ?_
   refine qv (v := .pointer (some ⟨p2, k, none⟩)) (r_index elm_65 rfl rfl (by omega) (by omega) (by omega)) ?_
   refine qo ?_
   refine e_storeAt (cs := qs2.map ptrV) (σ' := [⟨g15, true, .cells #[.int .i64 s0.f0, .int .u32 s0.f1, .bool s0.f2.f0, .slice Av s0.f2.f1.length cv, .int .i64 s0.f3] 28 (0, 0)⟩, ⟨g4, true, .cells #[.slice (some ⟨p2, 0, none⟩) qs2.length qs2.length] 67 (0, 0)⟩, ⟨p2, true, (.cells ((qs2.set k (some g15)).map ptrV).toArray 71 (0, 0))⟩, ⟨p, false, (.cells (qs.map ptrV).toArray 71 (0, 0))⟩]) S20 rfl rfl rfl rfl sz_71 2 rfl (.inl rfl) (by simp; omega) (row_set qs2 k (some g15)) rfl ?_
   intro w22 S23 E24
   have hbig := (S23.own _ (List.mem_of_getElem? (i := 0) rfl) rfl : w.heap.size ≤ g15)
   have HOf := R_ext HO.out E24 (S20.blk 2 rfl) (by decide)
   have hst := tab_put HT3.out hg15 B18 E21 E24 (by omega : k < qs2.length) (S23.blk 2 rfl) (S23.blk 0 rfl) HOf
   have Sz := S23.sub (σ' := []) (by simp)
   refine q_nil ?_
   refine x_blk ?_
   refine x_seq ?_
   refine s_region ?_
   refine qv (v := .int .i64 ((k + 1 : Nat) : Int)) (r_add rfl rfl (w_succ (by omega))) ?_
   refine qv (v := .int .i64 ((k + 1 : Nat) : Int)) (r_move rfl) ?_
   refine q_nil ?_
   exact x_loop _ [(3, .pointer (some ⟨g4, 0, none⟩)), (20, .slice (some ⟨p, 0, none⟩) qs.length qs.length), (21, .int .i64 ((qs.length : Nat) : Int)), (22, .int .i64 ((k + 1 : Nat) : Int))] ⟨rfl, rfl, rfl, rfl, trivial⟩ (by omega) ⟨_, k + 1, (qs2.set k (some g15)), rfl, Sz, by omega, (clone_step HT.out.len HS0.out hst), rfl⟩
 ·skip
  refine qv (v := .bool false) (r_lss rfl rfl (decide_eq_false (hk))) ?_
  refine q_nil ?_
  refine x_seq ?_
  refine s_seq ?_
  refine s_false rfl ?_
  refine s_exit ?_
  refine x_seq_exit ?_
  refine x_seq_exit ?_
  refine x_blk_exit ?_
  refine x_seq ?_
  refine s_seq ?_
  refine s_region ?_
  refine qv (v := .pointer (some ⟨g4, 0, none⟩)) (r_move rfl) ?_
  refine qv (v := .pointer (some ⟨g4, 0, none⟩)) (r_assign rfl) ?_
  refine q_nil ?_
  refine x_seq ?_
  refine s_ret ?_
  refine t_ret1 (v := .pointer (some ⟨g4, 0, none⟩)) rfl rfl ?_
  obtain rfl : k = qs.length := by omega
  have hf := HT2.out
  rw [Nat.sub_self, List.replicate_zero, List.append_nil, ← HT.out.len, List.take_length] at hf
  exact ⟨_, _, _, rfl, hf, Sy.ext.below⟩
end Go.Proofs.Ytilfalpfanaanaa.PA

namespace Go.Proofs.Ytilfalpfanaanaa.PA
open Go.RowKit Go.Proofs.YtilfalpfanaanaaW.PrintWords Go.Proofs.YtilfalpfanaanaaW.PrintLast Go.Proofs.YtilfalpfanaanaaW.PrintMore
abbrev set5 (w : World) (g : Nat) (a b c d e : Value) : World := ((((w.setCell ⟨g, 0, none⟩ a).setCell ⟨g, 1, none⟩ b).setCell ⟨g, 2, none⟩ c).setCell ⟨g, 3, none⟩ d).setCell ⟨g, 4, none⟩ e
theorem put5 {w : World} {g : Nat} {t : TypeId} {c0 c1 c2 c3 c4 : Value} (h : w.heap[g]? = some (.cells #[c0, c1, c2, c3, c4] t (0, 0))) (a b c d e : Value) : (set5 w g a b c d e).heap[g]? = some (.cells #[a, b, c, d, e] t (0, 0)) :=
  blk_put (blk_put (blk_put (blk_put (blk_put (cs' := #[a, c1, c2, c3, c4]) h 0 a rfl) (cs' := #[a, b, c2, c3, c4]) 1 b rfl) (cs' := #[a, b, c, c3, c4]) 2 c rfl) (cs' := #[a, b, c, d, c4]) 3 d rfl) 4 e rfl
theorem same5 {w : World} {g : Nat} {a b c d e : Value} {k : Nat} (hk : k ≠ g) : (set5 w g a b c d e).heap[k]? = w.heap[k]? := by
  unfold set5
  rw [Below.heap_setCell _ _ _ k hk, Below.heap_setCell _ _ _ k hk, Below.heap_setCell _ _ _ k hk, Below.heap_setCell _ _ _ k hk, Below.heap_setCell _ _ _ k hk]
theorem below5 {w W : World} {g : Nat} {a b c d e : Value} (h : Below w.heap.size w W) (hg : w.heap.size ≤ g) : Below w.heap.size w (set5 W g a b c d e) := below_set (below_set (below_set (below_set (below_set h hg) hg) hg) hg) hg
theorem far5 {w : World} {g : Nat} {base : Nat} {cs : Array Value} {v : Value} {xs : List Int} {ok : Nat → Prop} (h : Kd.R (Kd.int .i64) 3 w base ok v xs) (hb : w.heap[g]? = some (.cells cs 28 (0, 0))) (a b c d e : Value) : Kd.R (Kd.int .i64) 3 (set5 w g a b c d e) base ok v xs :=
  Kd.R_mono (Kd.R_step (Kd.R_types h hb (by decide)) (fun k hk _ => same5 hk.2)) (fun _ hk => hk.1)
def zeroC : Array Value := #[.int .i64 0, .int .u32 0, .bool false, .slice none 0 0, .int .i64 0]
theorem slot_cells {w : World} {q : Nat} {s : Slot} {A : Option Addr} {c : Nat} (h : w.heap[q]? = some (.cells (slotC s A c) 28 (0, 0))) :
    w.cell? ⟨q, 0, none⟩ = some (.int .i64 s.f0) ∧ w.cell? ⟨q, 1, none⟩ = some (.int .u32 s.f1) ∧ w.cell? ⟨q, 2, none⟩ = some (.bool s.f2.f0) ∧ w.cell? ⟨q, 3, none⟩ = some (.slice A s.f2.f1.length c) ∧ w.cell? ⟨q, 4, none⟩ = some (.int .i64 s.f3) :=
  ⟨(blk_cell h 0).trans rfl, (blk_cell h 1).trans rfl, (blk_cell h 2).trans rfl, (blk_cell h 3).trans rfl, (blk_cell h 4).trans rfl⟩
theorem five_cells {w : World} {q t : Nat} {c0 c1 c2 c3 c4 : Value} (h : w.heap[q]? = some (.cells #[c0, c1, c2, c3, c4] t (0, 0))) :
    w.cell? ⟨q, 0, none⟩ = some c0 ∧ w.cell? ⟨q, 1, none⟩ = some c1 ∧ w.cell? ⟨q, 2, none⟩ = some c2 ∧ w.cell? ⟨q, 3, none⟩ = some c3 ∧ w.cell? ⟨q, 4, none⟩ = some c4 :=
  ⟨(blk_cell h 0).trans rfl, (blk_cell h 1).trans rfl, (blk_cell h 2).trans rfl, (blk_cell h 3).trans rfl, (blk_cell h 4).trans rfl⟩
set_option maxRecDepth 100000 in
theorem Get_ok {w : World} {b g p : Nat} {ok : Nat → Prop} {qs : List (Option Nat)} {ss : List (Option Slot)} (h : TabAt w b ok g p qs ss) (fd need : Int) (h0 : 0 ≤ fd) {s : Slot} (hs : ss[fd.toNat]? = some (some s)) (hsub : rights_Subset.f need s.f1 = some true) (hl : s.f2.f1.length * 8 ≤ 140737488355328) :
    Calls Try.prog 12 #[.pointer (some ⟨g, 0, none⟩), .int .i64 fd, .int .u32 need] w fun e w' => ∃ v, e = .returned (.tuple #[.agg #[.int .i64 s.f0, .int .u32 s.f1, .bool s.f2.f0, v, .int .i64 s.f3], .int .i64 0]) ∧ Kd.R (Kd.int .i64) 3 w' w.heap.size (fun _ => True) v s.f2.f1 ∧ Below w.heap.size w w' := by
  obtain ⟨q, hq⟩ : ∃ q, qs[fd.toNat]? = some (some q) := by
    have hlt : fd.toNat < qs.length := by have := (List.getElem?_eq_some_iff.1 hs).1; rw [h.len] at this; exact this
    cases e : qs[fd.toNat] with
    | none => have := h.non fd.toNat (by rw [List.getElem?_eq_getElem hlt, e]); rw [hs] at this; cases this
    | some q => exact ⟨q, by rw [List.getElem?_eq_getElem hlt, e]⟩
  obtain ⟨_, _, s', hs', A, c, hb, hr⟩ := h.som fd.toNat q hq
  rw [hs] at hs'
  obtain rfl := Option.some.inj (Option.some.inj hs')
  have HT := Aside0.mk h
  have HQ := Aside0.mk hq
  have HB0 := Aside0.mk hb
  have HR := Aside0.mk hr
  have HSub := Aside0.mk hsub
  have HOwn := Aside0.mk (show slots_own.f s.f0 s.f1 s.f2.f0 s.f2.f1 s.f3 = some (s.f0, s.f1, s.f2.f0, s.f2.f1, s.f3) by unfold slots_own.f slices_Clone_int_int.f; rw [if_pos hl]; rfl)
  have H0 := Aside0.mk h0
  clear h hq hb hr hsub hs hs' h0 hl
  go_enter Try.func12, Try.ntmps12
  go_wp2_with (first
    | ((with_reducible refine gate_dst (N := 6) rfl ?_); refine box_event ?hg (N := 6) ?hd (cs := zeroC) (t := 28) ?hr ?_; (case hd => rfl); (case hg => rfl); (case hr => first | (go_simp; done) | (go_simp; rfl)); intro g6 hg w1 BK hb; have BK6 := Aside0.mk BK; have HB1 := Aside0.mk hb; have GE6 := Aside0.mk (show w.heap.size ≤ g6 from Nat.le_of_eq hg.symm); clear BK hb hg)
    | ((with_reducible refine gate_callee (f := 36) rfl ?_); refine goesL_ (some 13) rfl rfl Try.func36 (by kernel_rfl) rfl #[.pointer (some ⟨g, 0, none⟩), .int .i64 fd] rfl (by (try simp only [List.map_toArray, List.map_cons, List.map_nil]); first | done | rfl) ?_; refine (get_ok (HT.out.below HB1.out) fd H0.out HQ.out).mono ?_; rintro e w2 ⟨rfl, rfl⟩; refine ⟨_, rfl, ?_⟩; have hq1 : w2.cell? ⟨q, 1, none⟩ = some (.int .u32 s.f1) := (blk_cell (blk_below HB0.out HB1.out) 1).trans rfl)
    | ((with_reducible refine gate_callee (f := 37) rfl ?_); refine goesL_ (some 27) rfl rfl Try.func37 (by kernel_rfl) rfl #[.int .u32 need, .int .u32 s.f1] rfl (by (try simp only [List.map_toArray, List.map_cons, List.map_nil]); first | done | rfl) ?_; refine (rights_Subset.calls need s.f1 true _ HSub.out).mono ?_; rintro e w3 ⟨rfl, ⟨nd, rfl⟩⟩; refine ⟨_, rfl, ?_⟩; have HB2 := Aside0.mk (pw_below_drewN HB1.out nd); have BK6b := Aside0.mk (blk_drewN BK6.out nd); clear hq1; obtain ⟨hq0, hq1, hq2, hq3, hq4⟩ := slot_cells (blk_below HB0.out HB2.out))
    | ((with_reducible refine gate_callee (f := 35) rfl ?_); refine goesL_ (some 33) rfl rfl Try.func35 (by kernel_rfl) rfl #[.agg #[.int .i64 s.f0, .int .u32 s.f1, .bool s.f2.f0, .slice A s.f2.f1.length c, .int .i64 s.f3]] rfl (by (try simp only [List.map_toArray, List.map_cons, List.map_nil]); first | done | rfl) ?_; refine (slots_own.calls s.f0 s.f1 s.f2.f0 A c s.f2.f1 s.f3 _ _ _ _ _ _ (Kd.C_below (R_C HR.out).2 HB2.out) (R_C HR.out).1 HOwn.out).mono ?_; rintro e w4 ⟨v, rfl, ho, hb⟩; refine ⟨_, rfl, ?_⟩; have HB4 := Aside0.mk (below_step HB2.out hb); have BK6c := Aside0.mk (blk_below BK6b.out hb); have HO := Aside0.mk ho; clear ho hb hq0 hq1 hq2 hq3 hq4; obtain ⟨Av, cv, ev⟩ := Kd.R_slice HO.out; subst ev; obtain ⟨hz0, hz1, hz2, hz3, hz4⟩ := five_cells BK6c.out; have hf0 := blk_frozen BK6c.out 0; have hf1 := blk_frozen BK6c.out 1; have hf2 := blk_frozen BK6c.out 2; have hf3 := blk_frozen BK6c.out 3; have hf4 := blk_frozen BK6c.out 4))
  refine bodyPost_ret (results_ct rfl _ _ g6 28 #[.int .i64 s.f0, .int .u32 s.f1, .bool s.f2.f0, .slice Av s.f2.f1.length cv, .int .i64 s.f3] (0, 0) _ rfl (put5 BK6c.out _ _ _ _ _) Try.underlying28 rfl (by kernel_rfl)) rfl ?_
  exact ⟨_, rfl, Kd.R_lower (far5 HO.out BK6c.out _ _ _ _ _) HB2.out.size, below5 HB4.out GE6.out⟩
set_option maxRecDepth 100000 in
theorem Get_bad {w : World} {b g p : Nat} {ok : Nat → Prop} {qs : List (Option Nat)} {ss : List (Option Slot)} (h : TabAt w b ok g p qs ss) (fd need : Int) (hq : ∀ s, 0 ≤ fd → ss[fd.toNat]? ≠ some (some s)) :
    Calls Try.prog 12 #[.pointer (some ⟨g, 0, none⟩), .int .i64 fd, .int .u32 need] w fun e w' => ∃ v, e = .returned (.tuple #[.agg #[.int .i64 0, .int .u32 0, .bool false, v, .int .i64 0], .int .i64 9]) ∧ Kd.R (Kd.int .i64) 3 w' w.heap.size (fun _ => True) v ([] : List Int) ∧ Below w.heap.size w w' := by
  have HT := Aside0.mk h
  have HQ := Aside0.mk (show ∀ q, 0 ≤ fd → qs[fd.toNat]? ≠ some (some q) from fun q h0 hs => by obtain ⟨_, _, s, h1, _⟩ := h.som _ _ hs; exact hq s h0 h1)
  clear h hq
  go_enter Try.func12, Try.ntmps12
  go_wp2_with (first
    | ((with_reducible refine gate_dst (N := 6) rfl ?_); refine box_event ?hg (N := 6) ?hd (cs := zeroC) (t := 28) ?hr ?_; (case hd => rfl); (case hg => rfl); (case hr => first | (go_simp; done) | (go_simp; rfl)); intro g6 hg w1 BK hb; have BK6 := Aside0.mk BK; have HB1 := Aside0.mk hb; have GE6 := Aside0.mk (show w.heap.size ≤ g6 from Nat.le_of_eq hg.symm); clear BK hb hg)
    | ((with_reducible refine gate_callee (f := 36) rfl ?_); refine goesL_ (some 13) rfl rfl Try.func36 (by kernel_rfl) rfl #[.pointer (some ⟨g, 0, none⟩), .int .i64 fd] rfl (by (try simp only [List.map_toArray, List.map_cons, List.map_nil]); first | done | rfl) ?_; refine (get_bad (HT.out.below HB1.out) fd HQ.out).mono ?_; rintro e w2 ⟨rfl, rfl⟩; refine ⟨_, rfl, ?_⟩; obtain ⟨hz0, hz1, hz2, hz3, hz4⟩ := five_cells BK6.out; have hf0 := blk_frozen BK6.out 0; have hf1 := blk_frozen BK6.out 1; have hf2 := blk_frozen BK6.out 2; have hf3 := blk_frozen BK6.out 3; have hf4 := blk_frozen BK6.out 4))
  refine bodyPost_ret (results_ct rfl _ _ g6 28 zeroC (0, 0) _ rfl (put5 BK6.out _ _ _ _ _) Try.underlying28 rfl (by kernel_rfl)) rfl ?_
  exact ⟨_, rfl, Kd.R_nil _ _ _ _ _, below5 HB1.out GE6.out⟩
end Go.Proofs.Ytilfalpfanaanaa.PA

namespace Go.Proofs.Ytilfalpfanaanaa.PA
open Go.RowKit Go.Proofs.YtilfalpfanaanaaW.PrintWords Go.Proofs.YtilfalpfanaanaaW.PrintLast Go.Proofs.YtilfalpfanaanaaW.PrintMore
attribute [local go_sem] max2_int min2_int max_two min_two max_three min_three max_four min_four   -- for this text's walks alone
def purlieuref13_All.l0 : Nat → List (S28) → List Int → Int → Option (List Int)
  | 0, _, _, _ => none
  | k + 1, x0, x3, x4 => if x4 < (x0.length : Int) then (if 0 ≤ x4 then (if ((rd_T28 x0 x4).f0) > 0 then (if x3.length < 17592186044416 then (purlieuref13_All.l0 k x0 (x3 ++ [x4]) (wrap64 (x4 + 1))) else (none)) else (purlieuref13_All.l0 k x0 x3 (wrap64 (x4 + 1)))) else (none)) else (some x3)
def purlieuref13_All.f (k : Nat) (l0 : List (S28)) : Option (List Int) := purlieuref13_All.l0 k l0 (([] : List Int)) 0
set_option maxHeartbeats 8000000 in
set_option maxRecDepth 100000 in
theorem purlieuref13_All.calls (k : Nat) (A0 : Option Addr) (c0 : Nat) (l0 : List (S28)) (r : List Int) (w : World) (hr0 : Kd.C k28 w A0 l0.length l0) (hc0 : l0.length ≤ c0) (h : purlieuref13_All.f k l0 = some r) :
    Calls Try.prog 50 #[.slice A0 l0.length c0] w fun e w' => ∃ v0_ : Value, e = .returned (v0_) ∧ Kd.R (Kd.int .i64) 3 w' w.heap.size (fun _ => True) v0_ r ∧ Below w.heap.size w w' := by
  have HR0 := Aside0.mk hr0
  have HC0 := Aside0.mk hc0
  clear hr0 hc0
  have HB := Aside0.mk (Below.refl w.heap.size w)
  have H : (purlieuref13_All.l0 k l0 (([] : List Int)) 0) = some r := h
  clear h
  obtain ⟨y161, hy161⟩ : ∃ y_ : List Int, y_ = (([] : List Int)) := ⟨_, rfl⟩
  replace H : (purlieuref13_All.l0 k l0 y161 0) = some r := by first | (rw [hy161]; with_reducible exact H) | (have H2_ := (Option.bind_some _ _).symm.trans H; rw [hy161]; with_reducible exact H2_) | (have H2_ := (Option.bind_some _ _).symm.trans H; with_reducible exact H2_) | with_reducible exact H | (rw [hy161]; exact H) | exact H
  have Ny161 := Aside0.mk hy161
  clear hy161
  have H' := Aside0.mk H
  clear H
  go_enter Try.func50, Try.ntmps50
  go_wp2_with (first | ((with_reducible refine gate_dst (N := 5) rfl ?_); refine Kd.R_lit (Kd.int .i64) _ 3 ?hg (N := 5) ?hd (xs := ([] : List Int)) (inner := []) (ok := fun _ => True) (okp := fun _ => True) ?hr ?hp (fun _ hk => hk) trivial (Below.refl _ _) (Nat.le_refl _) (by simp) ?_; (case hd => rfl); (case hg => rfl); (case hr => first | (go_simp; done) | (go_simp; rfl)); (case hp => exact (Reps.none _ _)); intro v162 w2 ho3 hb hg_ hnew_; clear hg_ hnew_; (first | rw [← Ny161.out] at ho3 | (simp only [Int.reduceToNat] at ho3; rw [← Ny161.out] at ho3)); have n0_ := Aside0.mk (Kd.R_lower ho3 (below_size (by repeat (first | (with_reducible first | exact HB.out | apply below_alloc | apply pw_below_drewN | apply below_drew1) | exact HB.out)))); have n1_ := Aside0.mk (below_step (by repeat (first | (with_reducible first | exact HB.out | apply below_alloc | apply pw_below_drewN | apply below_drew1) | exact HB.out)) hb); clear HB; have HO163 := n0_; have HB := n1_; clear n0_ n1_; clear hb ho3))
  go_loopg [3, 4] k (fun kq v3 v4 w' => ∃ (x3_1 : List Int) (x4_1 : Int), v4 = .int .i64 x4_1 ∧ Aside0 (purlieuref13_All.l0 kq l0 x3_1 x4_1 = some r) ∧ Aside0 (kq ≤ k) ∧ Aside0 (Kd.R (Kd.int .i64) 3 w' w.heap.size (fun _ => True) v3 x3_1) ∧ Aside0 (Below w.heap.size w w'))
  case atStart => exact ⟨(y161), (0), (by first | rfl | (simp; done) | (simp [*]; done)), H', ⟨Nat.le_refl _⟩, ⟨by (with_reducible repeat (first | apply Kd.R_alloc | apply Kd.R_drewN | apply Kd.R_drew)); exact HO163.out⟩, ⟨by repeat (first | (with_reducible first | exact HB.out | apply below_alloc | apply pw_below_drewN | apply below_drew1) | exact HB.out)⟩⟩
  case round =>
    clear H'
    try clear p2
    obtain ⟨x3_1, x4_1, rfl, HA, HK1, HO_3, HB⟩ := hrel
    cases gk with
    | zero => exact absurd HA.out (by simp [purlieuref13_All.l0])
    | succ k1 =>
      have H := HA.out
      clear HA
      simp only [purlieuref13_All.l0] at H
      by_cases c4 : x4_1 < (l0.length : Int)
      · rw [if_pos c4] at H
        have c4b0 : decide (x4_1 < (l0.length : Int)) = true := decide_eq_true c4
        clear c4
        by_cases c5 : 0 ≤ x4_1
        · rw [if_pos c5] at H
          have c5b0 : decide (0 ≤ x4_1) = true := decide_eq_true c5
          clear c5
          by_cases c6 : ((rd_T28 l0 x4_1).f0) > 0
          · rw [if_pos c6] at H
            have c6b0 : decide (0 < ((rd_T28 l0 x4_1).f0)) = true := decide_eq_true c6
            clear c6
            by_cases c7 : x3_1.length < 17592186044416
            · rw [if_pos c7] at H
              have LMc7 := Aside0.mk c7
              clear c7
              obtain ⟨y165, hy165⟩ : ∃ y_ : List Int, y_ = (x3_1 ++ [x4_1]) := ⟨_, rfl⟩
              replace H : (purlieuref13_All.l0 k1 l0 y165 (wrap64 (x4_1 + 1))) = some r := by first | (rw [hy165]; with_reducible exact H) | (have H2_ := (Option.bind_some _ _).symm.trans H; rw [hy165]; with_reducible exact H2_) | (have H2_ := (Option.bind_some _ _).symm.trans H; with_reducible exact H2_) | with_reducible exact H | (rw [hy165]; exact H) | exact H
              have Ny165 := Aside0.mk hy165
              clear hy165
              have H' := Aside0.mk H
              clear H
              have p164 : 0 ≤ (x4_1 : Int) := of_decide_eq_true (by first | (with_reducible assumption) | assumption)
              have q164 : x4_1 < (l0.length : Int) := of_decide_eq_true (by first | (with_reducible assumption) | assumption)
              obtain ⟨ad164, A164_3, c164_3, e164, hx164_0, hx164_1, hx164_2, hx164_3, hx164_4, hl164_3, hi164_3⟩ := at_T28 HR0.out x4_1 p164 q164
              cases e164
              replace hx164_0 := (HB.out.cell (World.block_lt_of_cell? w _ hx164_0)).trans hx164_0
              replace hx164_1 := (HB.out.cell (World.block_lt_of_cell? w _ hx164_1)).trans hx164_1
              replace hx164_2 := (HB.out.cell (World.block_lt_of_cell? w _ hx164_2)).trans hx164_2
              replace hx164_3 := (HB.out.cell (World.block_lt_of_cell? w _ hx164_3)).trans hx164_3
              replace hx164_4 := (HB.out.cell (World.block_lt_of_cell? w _ hx164_4)).trans hx164_4
              have HR164_3 := Aside0.mk hi164_3
              have HC164_3 := Aside0.mk hl164_3
              clear hi164_3 hl164_3
              replace p164 := eq_true p164
              replace q164 := eq_true q164
              go_wp2_with (first | ((with_reducible refine gate_builtin (b := .append) (xs := #[.tmp 18, .tmp 20]) rfl ?_); at_builtin; refine Kd.R_append (Kd.int .i64) (w0 := w) w.heap.size rfl (.tmp 18) (.tmp 20) 24 3 (.int .i64 0) 8 rfl Try.underlying24 info3 rfl (by decide) (by omega) u3 x3_1 x4_1 [.int .i64 x4_1] (fun _ => True) (fun _ => False) rfl rfl ?aP (fun _ hk => hk.elim) ?aF ?aO ?aB ?aS ?aL ?_; (case aP => exact rfl); (case aB => exact (by repeat (first | (with_reducible first | exact HB.out | apply below_alloc | apply pw_below_drewN | apply below_drew1) | exact HB.out))); (case aF => exact (fun _ _ => trivial)); (case aO => exact (by (with_reducible repeat (first | apply Kd.R_alloc | apply Kd.R_drewN | apply Kd.R_drew)); exact HO_3.out)); (case aS => exact (below_size (by repeat (first | (with_reducible first | exact HB.out | apply below_alloc | apply pw_below_drewN | apply below_drew1) | exact HB.out)))); (case aL => have := LMc7.out; omega); intro v166 w8 ho hb hg hat; rw [← Ny165.out] at ho; have n0_ := Aside0.mk (hb); have n1_ := Aside0.mk (ho); clear HB; clear HO_3; have HB := n0_; have HO167 := n1_; clear n0_ n1_; clear ho hb hg hat))
              go_roundg k1
              case measure => have := HK1.out; omega
              case rel => exact ⟨(y165), (wrap64 (x4_1 + 1)), (by first | rfl | (simp; done) | (simp [*]; done)), H', ⟨by have := HK1.out; omega⟩, ⟨by (with_reducible repeat (first | apply Kd.R_alloc | apply Kd.R_drewN | apply Kd.R_drew)); exact HO167.out⟩, ⟨by repeat (first | (with_reducible first | exact HB.out | apply below_alloc | apply pw_below_drewN | apply below_drew1) | exact HB.out)⟩⟩
            · rw [if_neg c7] at H
              exact absurd H (by simp)
          · rw [if_neg c6] at H
            have c6b0 : decide (0 < ((rd_T28 l0 x4_1).f0)) = false := decide_eq_false c6
            clear c6
            have H' := Aside0.mk H
            clear H
            have p164 : 0 ≤ (x4_1 : Int) := of_decide_eq_true (by first | (with_reducible assumption) | assumption)
            have q164 : x4_1 < (l0.length : Int) := of_decide_eq_true (by first | (with_reducible assumption) | assumption)
            obtain ⟨ad164, A164_3, c164_3, e164, hx164_0, hx164_1, hx164_2, hx164_3, hx164_4, hl164_3, hi164_3⟩ := at_T28 HR0.out x4_1 p164 q164
            cases e164
            replace hx164_0 := (HB.out.cell (World.block_lt_of_cell? w _ hx164_0)).trans hx164_0
            replace hx164_1 := (HB.out.cell (World.block_lt_of_cell? w _ hx164_1)).trans hx164_1
            replace hx164_2 := (HB.out.cell (World.block_lt_of_cell? w _ hx164_2)).trans hx164_2
            replace hx164_3 := (HB.out.cell (World.block_lt_of_cell? w _ hx164_3)).trans hx164_3
            replace hx164_4 := (HB.out.cell (World.block_lt_of_cell? w _ hx164_4)).trans hx164_4
            have HR164_3 := Aside0.mk hi164_3
            have HC164_3 := Aside0.mk hl164_3
            clear hi164_3 hl164_3
            replace p164 := eq_true p164
            replace q164 := eq_true q164
            go_wp2
            go_roundg k1
            case measure => have := HK1.out; omega
            case rel => exact ⟨(x3_1), (wrap64 (x4_1 + 1)), (by first | rfl | (simp; done) | (simp [*]; done)), H', ⟨by have := HK1.out; omega⟩, ⟨by (with_reducible repeat (first | apply Kd.R_alloc | apply Kd.R_drewN | apply Kd.R_drew)); exact HO_3.out⟩, ⟨by repeat (first | (with_reducible first | exact HB.out | apply below_alloc | apply pw_below_drewN | apply below_drew1) | exact HB.out)⟩⟩
        · rw [if_neg c5] at H
          exact absurd H (by simp)
      · rw [if_neg c4] at H
        have c4b0 : decide (x4_1 < (l0.length : Int)) = false := decide_eq_false c4
        clear c4
        obtain rfl := Option.some.inj H
        go_wp2
        go_ret
        exact ⟨_, by first | rfl | (simp [errW_none, errW_some] <;> rfl) | (simp [*, errW_none, errW_some] <;> rfl), by (with_reducible repeat (first | apply Kd.R_alloc | apply Kd.R_drewN | apply Kd.R_drew)); exact HO_3.out, by repeat (first | (with_reducible first | exact HB.out | apply below_alloc | apply pw_below_drewN | apply below_drew1) | exact HB.out)⟩
def white_All.f  : Option (Bool × List Int) := some (true, ([] : List Int))
set_option maxHeartbeats 8000000 in
set_option maxRecDepth 100000 in
theorem white_All.calls  (r1 : Bool) (r2 : List Int) (w : World) (h : white_All.f  = some (r1, r2)) :
    Calls Try.prog 51 #[] w fun e w' => ∃ v1_ : Value, e = .returned (.agg #[.bool r1, v1_]) ∧ Kd.R (Kd.int .i64) 3 w' w.heap.size (fun _ => True) v1_ r2 ∧ Below w.heap.size w w' := by
  have hu26 := Try.underlying26
  have HB := Aside0.mk (Below.refl w.heap.size w)
  have H : (some (true, ([] : List Int))) = some (r1, r2) := h
  clear h
  simp only [Option.some.injEq, Prod.mk.injEq] at H
  obtain ⟨rfl, rfl⟩ := H
  go_enter Try.func51, Try.ntmps51
  go_wp2_with (first | ((with_reducible refine gate_dst (N := 0) rfl ?_); refine box_event ?hg (N := 0) ?hd (cs := #[.bool false, .slice none 0 0]) (t := 26) ?hr ?_; (case hd => rfl); (case hg => rfl); (case hr => first | (go_simp; done) | (go_simp; rfl)); intro gb168 hg w1 hbox hb; have n0_ := Aside0.mk (below_step (by repeat (first | (with_reducible first | exact HB.out | apply below_alloc | apply pw_below_drewN | apply below_drew1) | exact HB.out)) hb); have n1_ := Aside0.mk (hbox); have n2_ := Aside0.mk ((by rw [hg]; exact (below_size (by repeat (first | (with_reducible first | exact HB.out | apply below_alloc | apply pw_below_drewN | apply below_drew1) | exact HB.out))) : w.heap.size ≤ gb168)); have n3_ := Aside0.mk ((by rw [hg]; exact (below_size (by repeat (first | (with_reducible first | exact HB.out | apply below_alloc | apply pw_below_drewN | apply below_drew1) | exact HB.out))) : w.heap.size ≤ gb168)); clear HB; have HB := n0_; have BK168 := n1_; have GW168 := n2_; have GE168 := n3_; clear n0_ n1_ n2_ n3_; clear hb hbox hg; have hcz2_0 : w1.cell? ⟨gb168, 0, none⟩ = some (.bool false) := (blk_cell BK168.out 0).trans rfl; have hcz2_1 : w1.cell? ⟨gb168, 1, none⟩ = some (.slice none 0 0) := (blk_cell BK168.out 1).trans rfl; have hfz2_0 := blk_frozen BK168.out 0; have hfz2_1 := blk_frozen BK168.out 1))
  refine bodyPost_ret (results_cell_row rfl _ _ gb168 26 #[.bool true, .slice none 0 0] (0, 0) _ rfl (by (with_reducible repeat (first | refine blk_drewN ?_ _ | refine blk_drew ?_ | refine blk_alloc ?_ _)); refine blk_put (cs := #[.bool true, .slice none 0 0]) ?_ 1 _ rfl; (with_reducible repeat (first | refine blk_drewN ?_ _ | refine blk_drew ?_ | refine blk_alloc ?_ _)); refine blk_put (cs := #[.bool false, .slice none 0 0]) ?_ 0 _ rfl; (with_reducible repeat (first | refine blk_drewN ?_ _ | refine blk_drew ?_ | refine blk_alloc ?_ _)); exact BK168.out) Try.underlying26 rfl (by kernel_rfl)) rfl ?_
  exact ⟨_, by first | rfl | (simp [errW_none, errW_some] <;> rfl) | (simp [*, errW_none, errW_some] <;> rfl), by first | exact Kd.R_nil _ _ _ _ _ | exact Kd.N_nil _ _ _ _ _ | exact Kd.V_nil _ _ _ _ _ | exact Kd.Q_nil _ _ _ _ _ | exact Kd.S_nil _ _ _ _ _, by repeat (first | (with_reducible first | exact HB.out | apply below_alloc | apply pw_below_drewN | apply below_drew1 | refine below_set ?_ GE168.out) | exact HB.out)⟩
def slots_Full.f (a0 : Int) : Option (Int × Int × Bool × List Int × Int) := (white_All.f).bind fun bt170 => (some (a0, 4294967295, bt170.1, bt170.2, 120))
set_option maxHeartbeats 8000000 in
set_option maxRecDepth 100000 in
theorem slots_Full.calls (a0 : Int) (r1 : Int) (r2 : Int) (r3 : Bool) (r4 : List Int) (r5 : Int) (w : World) (h : slots_Full.f a0 = some (r1, r2, r3, r4, r5)) :
    Calls Try.prog 25 #[.int .i64 a0] w fun e w' => ∃ v3_ : Value, e = .returned (.agg #[.int .i64 r1, .int .u32 r2, .bool r3, v3_, .int .i64 r5]) ∧ Kd.R (Kd.int .i64) 3 w' w.heap.size (fun _ => True) v3_ r4 ∧ Below w.heap.size w w' := by
  have hu28 := Try.underlying28
  have HB := Aside0.mk (Below.refl w.heap.size w)
  have H : ((white_All.f).bind fun bt170 => (some (a0, 4294967295, bt170.1, bt170.2, 120))) = some (r1, r2, r3, r4, r5) := h
  clear h
  replace H := Option.bind_eq_some_iff.mp H
  obtain ⟨⟨t170, t171⟩, A20, H⟩ := H
  replace H : (some (a0, 4294967295, t170, t171, 120)) = some (r1, r2, r3, r4, r5) := H
  have A2 := Aside0.mk A20
  clear A20
  simp only [Option.some.injEq, Prod.mk.injEq] at H
  obtain ⟨rfl, rfl, rfl, rfl, rfl⟩ := H
  go_enter Try.func25, Try.ntmps25
  go_wp2_with (first | ((with_reducible refine gate_dst (N := 2) rfl ?_); refine box_event ?hg (N := 2) ?hd (cs := #[.int .i64 0, .int .u32 0, .bool false, .slice none 0 0, .int .i64 0]) (t := 28) ?hr ?_; (case hd => rfl); (case hg => rfl); (case hr => first | (go_simp; done) | (go_simp; rfl)); intro gb169 hg w3 hbox hb; have n0_ := Aside0.mk (below_step (by repeat (first | (with_reducible first | exact HB.out | apply below_alloc | apply pw_below_drewN | apply below_drew1) | exact HB.out)) hb); have n1_ := Aside0.mk (hbox); have n2_ := Aside0.mk ((by rw [hg]; exact (below_size (by repeat (first | (with_reducible first | exact HB.out | apply below_alloc | apply pw_below_drewN | apply below_drew1) | exact HB.out))) : w.heap.size ≤ gb169)); have n3_ := Aside0.mk ((by rw [hg]; exact (below_size (by repeat (first | (with_reducible first | exact HB.out | apply below_alloc | apply pw_below_drewN | apply below_drew1) | exact HB.out))) : w.heap.size ≤ gb169)); clear HB; have HB := n0_; have BK169 := n1_; have GW169 := n2_; have GE169 := n3_; clear n0_ n1_ n2_ n3_; clear hb hbox hg) | ((with_reducible refine gate_callee (f := 51) rfl ?_); refine goesL_ (some 4) rfl rfl Try.func51 (by kernel_rfl) rfl #[] rfl (by (try simp only [List.map_toArray, List.map_cons, List.map_nil]); first | done | rfl | (simp only [List.length_drop, List.length_take]; rfl)) ?_; (with_reducible refine (white_All.calls  t170 t171 _ A2.out).mono ?_); rintro e w4 ⟨v172, rfl, ho0, hb⟩; refine ⟨_, rfl, ?_⟩; have n0_ := Aside0.mk (Kd.R_lower ho0 (below_size (by repeat (first | (with_reducible first | exact HB.out | apply below_alloc | apply pw_below_drewN | apply below_drew1 | refine below_set ?_ GE169.out) | exact HB.out)))); have n1_ := Aside0.mk (blk_below (g := gb169) (o := .cells #[.int .i64 0, .int .u32 0, .bool false, .slice none 0 0, .int .i64 0] 28 (0, 0)) (by (with_reducible repeat (first | refine blk_drewN ?_ _ | refine blk_drew ?_ | refine blk_alloc ?_ _)); exact BK169.out) hb); have n2_ := Aside0.mk (below_step (by repeat (first | (with_reducible first | exact HB.out | apply below_alloc | apply pw_below_drewN | apply below_drew1 | refine below_set ?_ GE169.out) | exact HB.out)) hb); clear BK169; clear HB; have HO173 := n0_; have BK169 := n1_; have HB := n2_; clear n0_ n1_ n2_; (try clear hb); (try clear hb2); (try clear hk); (try clear hi); (try clear ho0); obtain ⟨Ao5, co5, eo5⟩ := Kd.R_slice HO173.out; subst eo5; have hcz6_0 : w4.cell? ⟨gb169, 0, none⟩ = some (.int .i64 0) := (blk_cell BK169.out 0).trans rfl; have hcz6_1 : w4.cell? ⟨gb169, 1, none⟩ = some (.int .u32 0) := (blk_cell BK169.out 1).trans rfl; have hcz6_2 : w4.cell? ⟨gb169, 2, none⟩ = some (.bool false) := (blk_cell BK169.out 2).trans rfl; have hcz6_3 : w4.cell? ⟨gb169, 3, none⟩ = some (.slice none 0 0) := (blk_cell BK169.out 3).trans rfl; have hcz6_4 : w4.cell? ⟨gb169, 4, none⟩ = some (.int .i64 0) := (blk_cell BK169.out 4).trans rfl; have hfz6_0 := blk_frozen BK169.out 0; have hfz6_1 := blk_frozen BK169.out 1; have hfz6_2 := blk_frozen BK169.out 2; have hfz6_3 := blk_frozen BK169.out 3; have hfz6_4 := blk_frozen BK169.out 4))
  refine bodyPost_ret (results_cell_row rfl _ _ gb169 28 #[.int .i64 a0, .int .u32 4294967295, .bool t170, .slice Ao5 t171.length co5, .int .i64 120] (0, 0) _ rfl (by (with_reducible repeat (first | refine blk_drewN ?_ _ | refine blk_drew ?_ | refine blk_alloc ?_ _)); refine blk_put (cs := #[.int .i64 a0, .int .u32 4294967295, .bool t170, .slice Ao5 t171.length co5, .int .i64 0]) ?_ 4 _ rfl; (with_reducible repeat (first | refine blk_drewN ?_ _ | refine blk_drew ?_ | refine blk_alloc ?_ _)); refine blk_put (cs := #[.int .i64 a0, .int .u32 4294967295, .bool t170, .slice none 0 0, .int .i64 0]) ?_ 3 _ rfl; (with_reducible repeat (first | refine blk_drewN ?_ _ | refine blk_drew ?_ | refine blk_alloc ?_ _)); refine blk_put (cs := #[.int .i64 a0, .int .u32 4294967295, .bool false, .slice none 0 0, .int .i64 0]) ?_ 2 _ rfl; (with_reducible repeat (first | refine blk_drewN ?_ _ | refine blk_drew ?_ | refine blk_alloc ?_ _)); refine blk_put (cs := #[.int .i64 a0, .int .u32 0, .bool false, .slice none 0 0, .int .i64 0]) ?_ 1 _ rfl; (with_reducible repeat (first | refine blk_drewN ?_ _ | refine blk_drew ?_ | refine blk_alloc ?_ _)); refine blk_put (cs := #[.int .i64 0, .int .u32 0, .bool false, .slice none 0 0, .int .i64 0]) ?_ 0 _ rfl; (with_reducible repeat (first | refine blk_drewN ?_ _ | refine blk_drew ?_ | refine blk_alloc ?_ _)); exact BK169.out) Try.underlying28 rfl (by kernel_rfl)) rfl ?_
  exact ⟨_, by first | rfl | (simp [errW_none, errW_some] <;> rfl) | (simp [*, errW_none, errW_some] <;> rfl), by (with_reducible repeat (first | apply Kd.R_alloc | apply Kd.R_drewN | apply Kd.R_drew)); exact Kd.R_mono (Kd.R_far (p := ⟨gb169, 4, none⟩) (Kd.R_far (p := ⟨gb169, 3, none⟩) (Kd.R_far (p := ⟨gb169, 2, none⟩) (Kd.R_far (p := ⟨gb169, 1, none⟩) (Kd.R_far (p := ⟨gb169, 0, none⟩) (Kd.R_types HO173.out BK169.out (by decide)) (fun _ hk => hk.2) (.int .i64 a0)) (fun _ hk => hk.2) (.int .u32 4294967295)) (fun _ hk => hk.2) (.bool t170)) (fun _ hk => hk.2) (.slice Ao5 t171.length co5)) (fun _ hk => hk.2) (.int .i64 120)) (fun _ hk => trivial), by repeat (first | (with_reducible first | exact HB.out | apply below_alloc | apply pw_below_drewN | apply below_drew1 | refine below_set ?_ GE169.out) | exact HB.out)⟩
end Go.Proofs.Ytilfalpfanaanaa.PA
