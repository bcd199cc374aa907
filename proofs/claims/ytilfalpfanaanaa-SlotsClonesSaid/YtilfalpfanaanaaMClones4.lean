/- Parts of one proof, put together by a program of this session's (wip/merge.py). -/
import Derived.Test.YtilfalpfanaanaaMClones0
import Derived.Test.YtilfalpfanaanaaMClones1
import Derived.Test.YtilfalpfanaanaaMClones3
import Derived.Test.YtilfalpfanaanaaMClones2
import Derived.Test.YtilfalpfanaanaaRows
import Derived.WalkKit
import Derived.ProofKit
import Derived.OpenShut
import Derived.ChangeOld
import Derived.Below
import Derived.SizedLaws
import Derived.Lib.SmallJoins
set_option linter.unusedVariables false
set_option linter.unusedSimpArgs false
namespace Go.Proofs.Ytilfalpfanaanaa.PA
open Go.RowKit Go.Proofs.YtilfalpfanaanaaW.PrintWords Go.Proofs.YtilfalpfanaanaaW.PrintLast Go.Proofs.YtilfalpfanaanaaW.PrintMore
attribute [local go_sem] max2_int min2_int max_two min_two max_three min_three max_four min_four   -- for this text's walks alone
def purlieuref13_With.f (l0 : List (S28)) (a1 : Int) (a2_0 : Int) (a2_1 : Int) (a2_2 : Bool) (l2_3 : List Int) (a2_4 : Int) : Option ((List (S28))) := (some (([] : List (S28)) : List (S28))).bind fun y147 => (if y147.length + l0.length < 2513169434916 then ((some (y147 ++ l0 : List (S28))).bind fun y150 => (if 0 ≤ a1 then (if a1 < (y150.length : Int) then (some (y150.set (a1 : Int).toNat (⟨a2_0, a2_1, (⟨a2_2, l2_3⟩ : S26), a2_4⟩ : S28))) else (none)) else (none))) else (none))
set_option maxHeartbeats 8000000 in
set_option maxRecDepth 100000 in
theorem purlieuref13_With.calls (P0_ : Nat → Prop) (A0 : Option Addr) (c0 : Nat) (l0 : List (S28)) (a1 : Int) (a2_0 : Int) (a2_1 : Int) (a2_2 : Bool) (P2_3_ : Nat → Prop) (A2_3 : Option Addr) (c2_3 : Nat) (l2_3 : List Int) (a2_4 : Int) (r : List (S28)) (w : World) (hs0 : Kd.V k28 28 w w.heap.size (fun k_ => P0_ k_) (.slice A0 l0.length c0) l0) (hs2_3 : Kd.V (Kd.int .i64) 3 w w.heap.size (fun k_ => P2_3_ k_) (.slice A2_3 l2_3.length c2_3) l2_3) (h : purlieuref13_With.f l0 a1 a2_0 a2_1 a2_2 l2_3 a2_4 = some r) :
    Calls Try.prog 44 #[.slice A0 l0.length c0, .int .i64 a1, .agg #[.int .i64 a2_0, .int .u32 a2_1, .bool a2_2, .slice A2_3 l2_3.length c2_3, .int .i64 a2_4]] w fun e w' => ∃ v0_ : Value, e = .returned (v0_) ∧ Kd.N k28 28 w' w.heap.size (fun k_ => ((P0_ k_ ∨ P2_3_ k_) ∨ w.heap.size ≤ k_)) v0_ r ∧ Below w.heap.size w w' := by
  have hu28 := Try.underlying28
  have HO0 := Aside0.mk (show Kd.V k28 28 w w.heap.size (fun k_ => ((P0_ k_ ∨ P2_3_ k_) ∨ w.heap.size ≤ k_)) (.slice A0 l0.length c0) l0 from Kd.V_mono hs0 (fun k_ hk => .inl (.inl hk)))
  have HO2_3 := Aside0.mk (show Kd.V (Kd.int .i64) 3 w w.heap.size (fun k_ => ((P0_ k_ ∨ P2_3_ k_) ∨ w.heap.size ≤ k_)) (.slice A2_3 l2_3.length c2_3) l2_3 from Kd.V_mono hs2_3 (fun k_ hk => .inl (.inr hk)))
  have HB := Aside0.mk (Below.refl w.heap.size w)
  have H : ((some (([] : List (S28)) : List (S28))).bind fun y147 => (if y147.length + l0.length < 2513169434916 then ((some (y147 ++ l0 : List (S28))).bind fun y150 => (if 0 ≤ a1 then (if a1 < (y150.length : Int) then (some (y150.set (a1 : Int).toNat (⟨a2_0, a2_1, (⟨a2_2, l2_3⟩ : S26), a2_4⟩ : S28))) else (none)) else (none))) else (none))) = some r := h
  clear h
  obtain ⟨y147, hy147⟩ : ∃ y_ : List (S28), y_ = (([] : List (S28))) := ⟨_, rfl⟩
  replace H : (if y147.length + l0.length < 2513169434916 then ((some (y147 ++ l0 : List (S28))).bind fun y150 => (if 0 ≤ a1 then (if a1 < (y150.length : Int) then (some (y150.set (a1 : Int).toNat (⟨a2_0, a2_1, (⟨a2_2, l2_3⟩ : S26), a2_4⟩ : S28))) else (none)) else (none))) else (none)) = some r := by first | (rw [hy147]; with_reducible exact H) | (have H2_ := (Option.bind_some _ _).symm.trans H; rw [hy147]; with_reducible exact H2_) | (have H2_ := (Option.bind_some _ _).symm.trans H; with_reducible exact H2_) | with_reducible exact H | (rw [hy147]; exact H) | exact H
  have Ny147 := Aside0.mk hy147
  clear hy147
  by_cases c4 : y147.length + l0.length < 2513169434916
  · rw [if_pos c4] at H
    have LMc4 := Aside0.mk c4
    clear c4
    obtain ⟨y150, hy150⟩ : ∃ y_ : List (S28), y_ = (y147 ++ l0) := ⟨_, rfl⟩
    replace H : (if 0 ≤ a1 then (if a1 < (y150.length : Int) then (some (y150.set (a1 : Int).toNat (⟨a2_0, a2_1, (⟨a2_2, l2_3⟩ : S26), a2_4⟩ : S28))) else (none)) else (none)) = some r := by first | (rw [hy150]; with_reducible exact H) | (have H2_ := (Option.bind_some _ _).symm.trans H; rw [hy150]; with_reducible exact H2_) | (have H2_ := (Option.bind_some _ _).symm.trans H; with_reducible exact H2_) | with_reducible exact H | (rw [hy150]; exact H) | exact H
    have Ny150 := Aside0.mk hy150
    clear hy150
    by_cases c5 : 0 ≤ a1
    · rw [if_pos c5] at H
      have c5b0 : decide (0 ≤ a1) = true := decide_eq_true c5
      clear c5
      by_cases c6 : a1 < (y150.length : Int)
      · rw [if_pos c6] at H
        have c6b0 : decide (a1 < (y150.length : Int)) = true := decide_eq_true c6
        clear c6
        obtain ⟨y153, hy153⟩ : ∃ y_ : List (S28), y_ = (y150.set (a1 : Int).toNat (⟨a2_0, a2_1, (⟨a2_2, l2_3⟩ : S26), a2_4⟩ : S28)) := ⟨_, rfl⟩
        replace H : (some y153) = some r := by first | (rw [hy153]; with_reducible exact H) | (have H2_ := (Option.bind_some _ _).symm.trans H; rw [hy153]; with_reducible exact H2_) | (have H2_ := (Option.bind_some _ _).symm.trans H; with_reducible exact H2_) | with_reducible exact H | (rw [hy153]; exact H) | exact H
        have Ny153 := Aside0.mk hy153
        clear hy153
        obtain rfl := Option.some.inj H
        go_enter Try.func44, Try.ntmps44
        go_wp2_with (first | ((with_reducible refine gate_dst (N := 5) rfl ?_); refine box_event ?hg (N := 5) ?hd (cs := #[.int .i64 a2_0, .int .u32 a2_1, .bool a2_2, .slice A2_3 l2_3.length c2_3, .int .i64 a2_4]) (t := 28) ?hr ?_; (case hd => rfl); (case hg => rfl); (case hr => first | (go_simp; done) | (go_simp; rfl)); intro gb146 hg w8 hbox hb; have n0_ := Aside0.mk (Kd.V_below (Kd.V_elderB (by (with_reducible repeat (first | apply Kd.V_alloc | apply Kd.V_drewN | apply Kd.V_drew)); exact HO0.out) gb146 (Nat.le_of_eq hg.symm)) hb); have n1_ := Aside0.mk (Kd.V_below (Kd.V_elderB (by (with_reducible repeat (first | apply Kd.V_alloc | apply Kd.V_drewN | apply Kd.V_drew)); exact HO2_3.out) gb146 (Nat.le_of_eq hg.symm)) hb); have n2_ := Aside0.mk (below_step (by repeat (first | (with_reducible first | exact HB.out | apply below_alloc | apply pw_below_drewN | apply below_drew1) | exact HB.out)) hb); have n3_ := Aside0.mk (hbox); have n4_ := Aside0.mk ((by rw [hg]; exact (below_size (by repeat (first | (with_reducible first | exact HB.out | apply below_alloc | apply pw_below_drewN | apply below_drew1) | exact HB.out))) : w.heap.size ≤ gb146)); have n5_ := Aside0.mk ((by rw [hg]; exact (below_size (by repeat (first | (with_reducible first | exact HB.out | apply below_alloc | apply pw_below_drewN | apply below_drew1) | exact HB.out))) : w.heap.size ≤ gb146)); clear HO0; clear HO2_3; clear HB; have HO0 := n0_; have HO2_3 := n1_; have HB := n2_; have BK146 := n3_; have GW146 := n4_; have GE146 := n5_; clear n0_ n1_ n2_ n3_ n4_ n5_; clear hb hbox hg) | ((with_reducible refine gate_dst (N := 8) rfl ?_); refine Kd.N_lit k28 _ 28 ?hg (N' := 8) ?hd (xs := ([] : List (S28))) (inner := []) (ok := (fun k_ => ((P0_ k_ ∨ P2_3_ k_) ∨ w.heap.size ≤ k_) ∧ k_ ≠ gb146)) (okp := (fun k_ => ((P0_ k_ ∨ P2_3_ k_) ∨ w.heap.size ≤ k_) ∧ k_ ≠ gb146)) ?hr ?hp (fun _ hk => hk) ((show ∀ k_, w8.heap.size ≤ k_ → (fun k_ => ((P0_ k_ ∨ P2_3_ k_) ∨ w.heap.size ≤ k_) ∧ k_ ≠ gb146) k_ from fun k_ hk => ⟨(.inr (Nat.le_trans (below_size (by repeat (first | (with_reducible first | exact HB.out | apply below_alloc | apply pw_below_drewN | apply below_drew1 | refine below_set ?_ GE146.out) | exact HB.out))) hk)), Kd.freshB (g := gb146) (o := .cells #[.int .i64 a2_0, .int .u32 a2_1, .bool a2_2, .slice A2_3 l2_3.length c2_3, .int .i64 a2_4] 28 (0, 0)) (by (with_reducible repeat (first | refine blk_drewN ?_ _ | refine blk_drew ?_ | refine blk_alloc ?_ _)); exact BK146.out) k_ hk⟩) _ (Nat.le_refl _)) (Below.refl _ _) (Nat.le_refl _) (by simp) ?_; (case hd => rfl); (case hg => rfl); (case hr => first | (go_simp; done) | (go_simp; rfl)); (case hp => exact (Reps.none _ _)); intro v148 w9 ho10 hb hg_ hnew_; clear hg_ hnew_; (first | rw [← Ny147.out] at ho10 | (simp only [Int.reduceToNat] at ho10; rw [← Ny147.out] at ho10)); have n0_ := Aside0.mk (Kd.V_elder' (by (with_reducible repeat (first | apply Kd.V_alloc | apply Kd.V_drewN | apply Kd.V_drew)); exact HO0.out) (Kd.N_base ho10) hb); have n1_ := Aside0.mk (Kd.V_elder' (by (with_reducible repeat (first | apply Kd.V_alloc | apply Kd.V_drewN | apply Kd.V_drew)); exact HO2_3.out) (Kd.N_base ho10) hb); have n2_ := Aside0.mk (Kd.N_lower ho10 (below_size (by repeat (first | (with_reducible first | exact HB.out | apply below_alloc | apply pw_below_drewN | apply below_drew1 | refine below_set ?_ GE146.out) | exact HB.out)))); have n3_ := Aside0.mk (blk_below (g := gb146) (o := .cells #[.int .i64 a2_0, .int .u32 a2_1, .bool a2_2, .slice A2_3 l2_3.length c2_3, .int .i64 a2_4] 28 (0, 0)) (by (with_reducible repeat (first | refine blk_drewN ?_ _ | refine blk_drew ?_ | refine blk_alloc ?_ _)); exact BK146.out) hb); have n4_ := Aside0.mk (below_step (by repeat (first | (with_reducible first | exact HB.out | apply below_alloc | apply pw_below_drewN | apply below_drew1 | refine below_set ?_ GE146.out) | exact HB.out)) hb); clear HO0; clear HO2_3; clear BK146; clear HB; have HO0 := n0_; have HO2_3 := n1_; have HO149 := n2_; have BK146 := n3_; have HB := n4_; clear n0_ n1_ n2_ n3_ n4_; clear hb ho10) | ((with_reducible refine gate_builtin (b := .append) (xs := #[.tmp 8, .tmp 9]) rfl ?_); at_builtin; refine Kd.N_append_rows k28 (w0 := w) w.heap.size rfl (.tmp 8) (.tmp 9) 47 28 (.agg #[(.int .i64 0), (.int .u32 0), (.bool false), (.slice none 0 0), (.int .i64 0)]) 56 rfl Try.underlying47 info28 rfl (by decide) (by omega) v148 y147 l0 _ _ _ (fun k_ => ((P0_ k_ ∨ P2_3_ k_) ∨ w.heap.size ≤ k_) ∧ k_ ≠ gb146) (fun k_ => ((fun k_ => ((P0_ k_ ∨ P2_3_ k_) ∨ w.heap.size ≤ k_) ∧ k_ ≠ gb146)) k_ ∧ some k_ ≠ (v148 : Value).ownBlock) rfl rfl ?aO ?aR (fun _ hk => hk) ?aF ?aB ?aS ?aL ?_; (case aR => exact (by skip; exact Kd.V_F (Kd.V_mono (ok' := (fun k_ => ((fun k_ => ((P0_ k_ ∨ P2_3_ k_) ∨ w.heap.size ≤ k_) ∧ k_ ≠ gb146)) k_ ∧ some k_ ≠ (v148 : Value).ownBlock)) (HO0.out) (fun k_ hk => ⟨⟨hk.1.1, hk.1.2⟩, hk.2⟩)))); (case aB => exact (by repeat (first | (with_reducible first | exact HB.out | apply below_alloc | apply pw_below_drewN | apply below_drew1 | refine below_set ?_ GE146.out) | exact HB.out))); (case aF => exact (fun k_ hk => ⟨(.inr (Nat.le_trans (below_size (by repeat (first | (with_reducible first | exact HB.out | apply below_alloc | apply pw_below_drewN | apply below_drew1 | refine below_set ?_ GE146.out) | exact HB.out))) hk)), Kd.freshB (g := gb146) (o := .cells #[.int .i64 a2_0, .int .u32 a2_1, .bool a2_2, .slice A2_3 l2_3.length c2_3, .int .i64 a2_4] 28 (0, 0)) (by (with_reducible repeat (first | refine blk_drewN ?_ _ | refine blk_drew ?_ | refine blk_alloc ?_ _)); exact BK146.out) k_ hk⟩)); (case aO => exact (by (with_reducible repeat (first | apply Kd.N_alloc | apply Kd.N_drewN | apply Kd.N_drew)); exact HO149.out)); (case aS => exact (below_size (by repeat (first | (with_reducible first | exact HB.out | apply below_alloc | apply pw_below_drewN | apply below_drew1 | refine below_set ?_ GE146.out) | exact HB.out)))); (case aL => have := LMc4.out; omega); intro v151 w11 ho hb hg hat; rw [← Ny150.out] at ho; have n0_ := Aside0.mk (Kd.V_afterv (ok := (fun k_ => ((P0_ k_ ∨ P2_3_ k_) ∨ w.heap.size ≤ k_) ∧ k_ ≠ gb146)) (by (with_reducible repeat (first | apply Kd.V_alloc | apply Kd.V_drewN | apply Kd.V_drew)); exact HO0.out) hg hat); have n1_ := Aside0.mk (Kd.V_afterv (ok := (fun k_ => ((P0_ k_ ∨ P2_3_ k_) ∨ w.heap.size ≤ k_) ∧ k_ ≠ gb146)) (by (with_reducible repeat (first | apply Kd.V_alloc | apply Kd.V_drewN | apply Kd.V_drew)); exact HO2_3.out) hg hat); have n2_ := Aside0.mk (blk_grown (g := gb146) (o := .cells #[.int .i64 a2_0, .int .u32 a2_1, .bool a2_2, .slice A2_3 l2_3.length c2_3, .int .i64 a2_4] 28 (0, 0)) (by (with_reducible repeat (first | refine blk_drewN ?_ _ | refine blk_drew ?_ | refine blk_alloc ?_ _)); exact BK146.out) hg (Kd.N_away HO149.out (fun _ hk => hk.2))); have n3_ := Aside0.mk (hb); have n4_ := Aside0.mk (ho); clear HO0; clear HO2_3; clear BK146; clear HB; clear HO149; have HO0 := n0_; have HO2_3 := n1_; have BK146 := n2_; have HB := n3_; have HO152 := n4_; clear n0_ n1_ n2_ n3_ n4_; clear ho hb hg hat; have hcz12_0 : w11.cell? ⟨gb146, 0, none⟩ = some (.int .i64 a2_0) := (blk_cell BK146.out 0).trans rfl; have hcz12_1 : w11.cell? ⟨gb146, 1, none⟩ = some (.int .u32 a2_1) := (blk_cell BK146.out 1).trans rfl; have hcz12_2 : w11.cell? ⟨gb146, 2, none⟩ = some (.bool a2_2) := (blk_cell BK146.out 2).trans rfl; have hcz12_3 : w11.cell? ⟨gb146, 3, none⟩ = some (.slice A2_3 l2_3.length c2_3) := (blk_cell BK146.out 3).trans rfl; have hcz12_4 : w11.cell? ⟨gb146, 4, none⟩ = some (.int .i64 a2_4) := (blk_cell BK146.out 4).trans rfl; have hfz12_0 := blk_frozen BK146.out 0; have hfz12_1 := blk_frozen BK146.out 1; have hfz12_2 := blk_frozen BK146.out 2; have hfz12_3 := blk_frozen BK146.out 3; have hfz12_4 := blk_frozen BK146.out 4; have p7 : 0 ≤ (a1 : Int) := of_decide_eq_true (by first | (with_reducible assumption) | assumption); have q7 : (a1 : Int) < ((y150.length : Int) : Int) := of_decide_eq_true (by first | (with_reducible assumption) | assumption); obtain ⟨go7, co7, eo7, gb7, gl7, cl7, HG7⟩ := Kd.N_form HO152.out (by omega); (first | cases eo7 | (injection eo7 with ea_ en_ ec_; (first | subst ea_ | (injection ea_ with ea_; subst ea_)); subst ec_; clear en_)); have GB7 := Aside0.mk gb7; have GG7 := Aside0.mk HG7; clear gb7 gl7 HG7; obtain ⟨ce7, hcl7, hM7, hcc7, hfr7⟩ := Kd.N_elem HO152.out z28 (a1 : Int) p7 q7; obtain ⟨ua7_3, uc7_3, rfl, ul7_3, ge7_3⟩ := k28_openF hM7; have hx7_0 : w11.cell? ⟨go7, (a1 : Int).toNat * 5, none⟩ = some (.int .i64 ((rd_T28 y150 a1).f0)) := hcc7 0 _ rfl; have hx7_1 : w11.cell? ⟨go7, (a1 : Int).toNat * 5 + 1, none⟩ = some (.int .u32 ((rd_T28 y150 a1).f1)) := hcc7 1 _ rfl; have hx7_2 : w11.cell? ⟨go7, (a1 : Int).toNat * 5 + 2, none⟩ = some (.bool ((rd_T28 y150 a1).f2.f0)) := hcc7 2 _ rfl; have hx7_3 : w11.cell? ⟨go7, (a1 : Int).toNat * 5 + 3, none⟩ = some (.slice ua7_3 ((rd_T28 y150 a1).f2.f1).length uc7_3) := hcc7 3 _ rfl; have hx7_4 : w11.cell? ⟨go7, (a1 : Int).toNat * 5 + 4, none⟩ = some (.int .i64 ((rd_T28 y150 a1).f3)) := hcc7 4 _ rfl; have hf7_0 : w11.frozen? ⟨go7, (a1 : Int).toNat * 5, none⟩ = false := hfr7 0; have hf7_1 : w11.frozen? ⟨go7, (a1 : Int).toNat * 5 + 1, none⟩ = false := hfr7 1; have hf7_2 : w11.frozen? ⟨go7, (a1 : Int).toNat * 5 + 2, none⟩ = false := hfr7 2; have hf7_3 : w11.frozen? ⟨go7, (a1 : Int).toNat * 5 + 3, none⟩ = false := hfr7 3; have hf7_4 : w11.frozen? ⟨go7, (a1 : Int).toNat * 5 + 4, none⟩ = false := hfr7 4; clear hcl7 hcc7 hfr7 hM7; replace p7 := eq_true p7; replace q7 := eq_true q7; have HX13 := Aside0.mk (show Kd.N k28 28 w11 w.heap.size (fun k_ => ((P0_ k_ ∨ P2_3_ k_) ∨ w.heap.size ≤ k_) ∧ k_ ≠ gb146) (.slice (some ⟨go7, 0, none⟩) y150.length co7) y150 from (by (with_reducible repeat (first | apply Kd.N_alloc | apply Kd.N_drewN | apply Kd.N_drew)); exact HO152.out)); obtain ⟨ce13, hcl13, hM13, hcc13, hfr13⟩ := Kd.N_elem HX13.out z28 (a1 : Int) (of_decide_eq_true (by first | (with_reducible assumption) | assumption)) (by have h_ : (a1 : Int) < ((y150.length : Int) : Int) := of_decide_eq_true (by first | (with_reducible assumption) | assumption); first | exact h_ | (have e_ := (Kd.N_reads' HO152.out).1; omega) | simpa using h_); obtain ⟨ua13_3, uc13_3, rfl, ul13_3, ge13_3⟩ := k28_openF hM13; have HP13 := Kd.N_seg HX13.out (a1 : Int) (of_decide_eq_true (by first | (with_reducible assumption) | assumption)) (by have h_ : (a1 : Int) < ((y150.length : Int) : Int) := of_decide_eq_true (by first | (with_reducible assumption) | assumption); first | exact h_ | (have e_ := (Kd.N_reads' HO152.out).1; omega) | simpa using h_) (seg := [.int .i64 a2_0, .int .u32 a2_1, .bool a2_2, .slice A2_3 l2_3.length c2_3, .int .i64 a2_4]) (j := 0) hcl13 hcc13 (show 5 ≤ 5 from by decide) (x' := (⟨a2_0, a2_1, (⟨a2_2, l2_3⟩ : S26), a2_4⟩ : S28)) (k28_mkF _ _ (⟨a2_0, a2_1, (⟨a2_2, l2_3⟩ : S26), a2_4⟩ : S28) (Kd.V_reads' (Kd.V_mono (ok' := (fun k_ => ((fun k_ => ((P0_ k_ ∨ P2_3_ k_) ∨ w.heap.size ≤ k_) ∧ k_ ≠ gb146)) k_ ∧ k_ ≠ go7)) (HO2_3.out) (fun k_ hk => ⟨⟨hk.1.1, hk.1.2⟩, fun e_ => (hk.2) (by rw [e_]; rfl)⟩))).2.1 (Kd.V_F (Kd.V_mono (ok' := (fun k_ => ((fun k_ => ((P0_ k_ ∨ P2_3_ k_) ∨ w.heap.size ≤ k_) ∧ k_ ≠ gb146)) k_ ∧ k_ ≠ go7)) (HO2_3.out) (fun k_ hk => ⟨⟨hk.1.1, hk.1.2⟩, fun e_ => (hk.2) (by rw [e_]; rfl)⟩)))) (fun _ hk => hk); have hx13_0 := hcc13 0 _ rfl; (try simp only [show (k28).sz = 5 from rfl, Nat.mul_one, Nat.add_zero] at hx13_0); have hf13_0 := hfr13 0; (try simp only [show (k28).sz = 5 from rfl, Nat.mul_one, Nat.add_zero] at hf13_0); have hx13_1 := hcc13 1 _ rfl; (try simp only [show (k28).sz = 5 from rfl, Nat.mul_one, Nat.add_zero] at hx13_1); have hf13_1 := hfr13 1; (try simp only [show (k28).sz = 5 from rfl, Nat.mul_one, Nat.add_zero] at hf13_1); have hx13_2 := hcc13 2 _ rfl; (try simp only [show (k28).sz = 5 from rfl, Nat.mul_one, Nat.add_zero] at hx13_2); have hf13_2 := hfr13 2; (try simp only [show (k28).sz = 5 from rfl, Nat.mul_one, Nat.add_zero] at hf13_2); have hx13_3 := hcc13 3 _ rfl; (try simp only [show (k28).sz = 5 from rfl, Nat.mul_one, Nat.add_zero] at hx13_3); have hf13_3 := hfr13 3; (try simp only [show (k28).sz = 5 from rfl, Nat.mul_one, Nat.add_zero] at hf13_3); have hx13_4 := hcc13 4 _ rfl; (try simp only [show (k28).sz = 5 from rfl, Nat.mul_one, Nat.add_zero] at hx13_4); have hf13_4 := hfr13 4; (try simp only [show (k28).sz = 5 from rfl, Nat.mul_one, Nat.add_zero] at hf13_4); clear hcl13 hcc13 hfr13 hM13) | ((with_reducible refine gate_store (t := 28) (p := 14) rfl ?_); refine store_event (t := 28) (p := 14) (v := ?vo_w14) (w1 := (((((w11.setCell ⟨go7, (a1 : Int).toNat * 5, none⟩ (.int .i64 a2_0)).setCell ⟨go7, (a1 : Int).toNat * 5 + 1, none⟩ (.int .u32 a2_1)).setCell ⟨go7, (a1 : Int).toNat * 5 + 2, none⟩ (.bool a2_2)).setCell ⟨go7, (a1 : Int).toNat * 5 + 3, none⟩ (.slice A2_3 l2_3.length c2_3)).setCell ⟨go7, (a1 : Int).toNat * 5 + 4, none⟩ (.int .i64 a2_4))) ?hg ?ho ?hn ?hr ?_; (case ho => rfl); (case hg => rfl); (case hn => rfl); (case hr => first | (go_simp; done) | (go_simp; rfl)); intro w14 hw; have hg : w11.grownBy w14 (some go7) := (by rw [hw]; exact HP13.2); have hp_ : Kd.N k28 28 w14 w.heap.size (fun k_ => ((P0_ k_ ∨ P2_3_ k_) ∨ w.heap.size ≤ k_) ∧ k_ ≠ gb146) (.slice (some ⟨go7, 0, none⟩) y150.length co7) y153 := (by rw [hw, Ny153.out]; exact HP13.1); clear HP13; have n0_ := Aside0.mk (Kd.V_afterv (v := (.slice (some ⟨go7, 0, none⟩) y150.length co7)) (v1 := (.slice (some ⟨go7, 0, none⟩) y150.length co7)) (ok := (fun k_ => ((P0_ k_ ∨ P2_3_ k_) ∨ w.heap.size ≤ k_) ∧ k_ ≠ gb146)) (by (with_reducible repeat (first | apply Kd.V_alloc | apply Kd.V_drewN | apply Kd.V_drew)); exact HO0.out) hg (.inl rfl)); have n1_ := Aside0.mk (Kd.V_afterv (v := (.slice (some ⟨go7, 0, none⟩) y150.length co7)) (v1 := (.slice (some ⟨go7, 0, none⟩) y150.length co7)) (ok := (fun k_ => ((P0_ k_ ∨ P2_3_ k_) ∨ w.heap.size ≤ k_) ∧ k_ ≠ gb146)) (by (with_reducible repeat (first | apply Kd.V_alloc | apply Kd.V_drewN | apply Kd.V_drew)); exact HO2_3.out) hg (.inl rfl)); have n2_ := Aside0.mk (blk_grown (g := gb146) (o := .cells #[.int .i64 a2_0, .int .u32 a2_1, .bool a2_2, .slice A2_3 l2_3.length c2_3, .int .i64 a2_4] 28 (0, 0)) (by (with_reducible repeat (first | refine blk_drewN ?_ _ | refine blk_drew ?_ | refine blk_alloc ?_ _)); exact BK146.out) hg (Kd.N_away HO152.out (fun _ hk => hk.2))); have n3_ := Aside0.mk (hp_); have n4_ := Aside0.mk ((by rw [hw]; exact below_set (below_set (below_set (below_set (below_set (HB.out) GB7.out) GB7.out) GB7.out) GB7.out) GB7.out : Below w.heap.size w w14)); clear HO0; clear HO2_3; clear BK146; clear HO152; clear HB; have HO0 := n0_; have HO2_3 := n1_; have BK146 := n2_; have HO152 := n3_; have HB := n4_; clear n0_ n1_ n2_ n3_ n4_; clear hg hw hp_))
        go_ret
        exact ⟨_, by first | rfl | (simp [errW_none, errW_some] <;> rfl) | (simp [*, errW_none, errW_some] <;> rfl), by (with_reducible repeat (first | apply Kd.N_alloc | apply Kd.N_drewN | apply Kd.N_drew)); exact Kd.N_mono HO152.out (fun _ hk => hk.1), by repeat (first | (with_reducible first | exact HB.out | apply below_alloc | apply pw_below_drewN | apply below_drew1 | refine below_set ?_ GE146.out) | exact HB.out)⟩
      · rw [if_neg c6] at H
        exact absurd H (by simp)
    · rw [if_neg c5] at H
      exact absurd H (by simp)
  · rw [if_neg c4] at H
    exact absurd H (by simp)
def purlieuref13_Put.f (k : Nat) (l0 : List (S28)) (a1 : Int) (a2_0 : Int) (a2_1 : Int) (a2_2 : Bool) (l2_3 : List Int) (a2_4 : Int) : Option ((List (S28)) × Int × Int) := (purlieuref13_Can.f k a2_0 a2_1 a2_2 l2_3 a2_4).bind fun t155 => (if t155 = true then ((purlieuref13_Free.f k l0 a1).bind fun bt156 => (if bt156.2 = 0 then ((purlieuref13_With.f l0 bt156.1 a2_0 a2_1 a2_2 l2_3 a2_4).bind fun t158 => (some (t158, bt156.1, 0))) else (some (l0, 0, bt156.2)))) else (some (l0, 0, 22)))
set_option maxHeartbeats 8000000 in
set_option maxRecDepth 100000 in
theorem purlieuref13_Put.calls (k : Nat) (P0_ : Nat → Prop) (A0 : Option Addr) (c0 : Nat) (l0 : List (S28)) (a1 : Int) (a2_0 : Int) (a2_1 : Int) (a2_2 : Bool) (P2_3_ : Nat → Prop) (A2_3 : Option Addr) (c2_3 : Nat) (l2_3 : List Int) (a2_4 : Int) (r1 : List (S28)) (r2 : Int) (r3 : Int) (w : World) (hs0 : Kd.V k28 28 w w.heap.size (fun k_ => P0_ k_) (.slice A0 l0.length c0) l0) (hs2_3 : Kd.V (Kd.int .i64) 3 w w.heap.size (fun k_ => P2_3_ k_) (.slice A2_3 l2_3.length c2_3) l2_3) (h : purlieuref13_Put.f k l0 a1 a2_0 a2_1 a2_2 l2_3 a2_4 = some (r1, r2, r3)) :
    Calls Try.prog 48 #[.slice A0 l0.length c0, .int .i64 a1, .agg #[.int .i64 a2_0, .int .u32 a2_1, .bool a2_2, .slice A2_3 l2_3.length c2_3, .int .i64 a2_4]] w fun e w' => ∃ v0_ : Value, e = .returned (.tuple #[v0_, .int .i64 r2, .int .i64 r3]) ∧ Kd.V k28 28 w' w.heap.size (fun k_ => ((P0_ k_ ∨ P2_3_ k_) ∨ w.heap.size ≤ k_)) v0_ r1 ∧ Below w.heap.size w w' := by
  have hu28 := Try.underlying28
  have HO0 := Aside0.mk (show Kd.V k28 28 w w.heap.size (fun k_ => ((P0_ k_ ∨ P2_3_ k_) ∨ w.heap.size ≤ k_)) (.slice A0 l0.length c0) l0 from Kd.V_mono hs0 (fun k_ hk => .inl (.inl hk)))
  have HO2_3 := Aside0.mk (show Kd.V (Kd.int .i64) 3 w w.heap.size (fun k_ => ((P0_ k_ ∨ P2_3_ k_) ∨ w.heap.size ≤ k_)) (.slice A2_3 l2_3.length c2_3) l2_3 from Kd.V_mono hs2_3 (fun k_ hk => .inl (.inr hk)))
  have HB := Aside0.mk (Below.refl w.heap.size w)
  have H : ((purlieuref13_Can.f k a2_0 a2_1 a2_2 l2_3 a2_4).bind fun t155 => (if t155 = true then ((purlieuref13_Free.f k l0 a1).bind fun bt156 => (if bt156.2 = 0 then ((purlieuref13_With.f l0 bt156.1 a2_0 a2_1 a2_2 l2_3 a2_4).bind fun t158 => (some (t158, bt156.1, 0))) else (some (l0, 0, bt156.2)))) else (some (l0, 0, 22)))) = some (r1, r2, r3) := h
  clear h
  replace H := Option.bind_eq_some_iff.mp H
  obtain ⟨t155, A40, H⟩ := H
  replace H : (if t155 = true then ((purlieuref13_Free.f k l0 a1).bind fun bt156 => (if bt156.2 = 0 then ((purlieuref13_With.f l0 bt156.1 a2_0 a2_1 a2_2 l2_3 a2_4).bind fun t158 => (some (t158, bt156.1, 0))) else (some (l0, 0, bt156.2)))) else (some (l0, 0, 22))) = some (r1, r2, r3) := H
  have A4 := Aside0.mk A40
  clear A40
  by_cases c5 : t155 = true
  · subst c5
    have H1 : ((purlieuref13_Free.f k l0 a1).bind fun bt156 => (if bt156.2 = 0 then ((purlieuref13_With.f l0 bt156.1 a2_0 a2_1 a2_2 l2_3 a2_4).bind fun t158 => (some (t158, bt156.1, 0))) else (some (l0, 0, bt156.2)))) = some (r1, r2, r3) := by rw [if_pos rfl] at H; exact H
    clear H
    have H := H1
    clear H1
    replace H := Option.bind_eq_some_iff.mp H
    obtain ⟨⟨t156, t157⟩, A60, H⟩ := H
    replace H : (if t157 = 0 then ((purlieuref13_With.f l0 t156 a2_0 a2_1 a2_2 l2_3 a2_4).bind fun t158 => (some (t158, t156, 0))) else (some (l0, 0, t157))) = some (r1, r2, r3) := H
    have A6 := Aside0.mk A60
    clear A60
    by_cases c7 : t157 = 0
    · rw [if_pos c7] at H
      have c7b0 : (t157 == 0) = true := beq_iff_eq.mpr c7
      have c7b1 : (t157 != 0) = false := bne_eq_false_iff_eq.mpr c7
      clear c7
      replace H := Option.bind_eq_some_iff.mp H
      obtain ⟨t158, A80, H⟩ := H
      replace H : (some (t158, t156, 0)) = some (r1, r2, r3) := H
      have A8 := Aside0.mk A80
      clear A80
      simp only [Option.some.injEq, Prod.mk.injEq] at H
      obtain ⟨rfl, rfl, rfl⟩ := H
      go_enter Try.func48, Try.ntmps48
      go_wp2_with (first | ((with_reducible refine gate_dst (N := 5) rfl ?_); refine box_event ?hg (N := 5) ?hd (cs := #[.int .i64 a2_0, .int .u32 a2_1, .bool a2_2, .slice A2_3 l2_3.length c2_3, .int .i64 a2_4]) (t := 28) ?hr ?_; (case hd => rfl); (case hg => rfl); (case hr => first | (go_simp; done) | (go_simp; rfl)); intro gb154 hg w9 hbox hb; have n0_ := Aside0.mk (Kd.V_below (Kd.V_elderB (by (with_reducible repeat (first | apply Kd.V_alloc | apply Kd.V_drewN | apply Kd.V_drew)); exact HO0.out) gb154 (Nat.le_of_eq hg.symm)) hb); have n1_ := Aside0.mk (Kd.V_below (Kd.V_elderB (by (with_reducible repeat (first | apply Kd.V_alloc | apply Kd.V_drewN | apply Kd.V_drew)); exact HO2_3.out) gb154 (Nat.le_of_eq hg.symm)) hb); have n2_ := Aside0.mk (below_step (by repeat (first | (with_reducible first | exact HB.out | apply below_alloc | apply pw_below_drewN | apply below_drew1) | exact HB.out)) hb); have n3_ := Aside0.mk (hbox); have n4_ := Aside0.mk ((by rw [hg]; exact (below_size (by repeat (first | (with_reducible first | exact HB.out | apply below_alloc | apply pw_below_drewN | apply below_drew1) | exact HB.out))) : w.heap.size ≤ gb154)); have n5_ := Aside0.mk ((by rw [hg]; exact (below_size (by repeat (first | (with_reducible first | exact HB.out | apply below_alloc | apply pw_below_drewN | apply below_drew1) | exact HB.out))) : w.heap.size ≤ gb154)); clear HO0; clear HO2_3; clear HB; have HO0 := n0_; have HO2_3 := n1_; have HB := n2_; have BK154 := n3_; have GW154 := n4_; have GE154 := n5_; clear n0_ n1_ n2_ n3_ n4_ n5_; clear hb hbox hg; have hcz10_0 : w9.cell? ⟨gb154, 0, none⟩ = some (.int .i64 a2_0) := (blk_cell BK154.out 0).trans rfl; have hcz10_1 : w9.cell? ⟨gb154, 1, none⟩ = some (.int .u32 a2_1) := (blk_cell BK154.out 1).trans rfl; have hcz10_2 : w9.cell? ⟨gb154, 2, none⟩ = some (.bool a2_2) := (blk_cell BK154.out 2).trans rfl; have hcz10_3 : w9.cell? ⟨gb154, 3, none⟩ = some (.slice A2_3 l2_3.length c2_3) := (blk_cell BK154.out 3).trans rfl; have hcz10_4 : w9.cell? ⟨gb154, 4, none⟩ = some (.int .i64 a2_4) := (blk_cell BK154.out 4).trans rfl; have hfz10_0 := blk_frozen BK154.out 0; have hfz10_1 := blk_frozen BK154.out 1; have hfz10_2 := blk_frozen BK154.out 2; have hfz10_3 := blk_frozen BK154.out 3; have hfz10_4 := blk_frozen BK154.out 4) | ((with_reducible refine gate_callee (f := 9) rfl ?_); refine goesL_ (some 12) rfl rfl Try.func9 (by kernel_rfl) rfl #[.agg #[.int .i64 a2_0, .int .u32 a2_1, .bool a2_2, .slice A2_3 l2_3.length c2_3, .int .i64 a2_4]] rfl (by (try simp only [List.map_toArray, List.map_cons, List.map_nil]); first | done | rfl | (simp only [List.length_drop, List.length_take]; rfl)) ?_; (with_reducible refine (purlieuref13_Can.calls k a2_0 a2_1 a2_2 _ _ l2_3 a2_4 true _ ?side1 ?side2 A4.out).mono ?_); (case side1 => repeat (first | exact (Kd.V_reads' HO2_3.out).2.2 | (with_reducible refine Kd.C_alloc ?_ _) | (with_reducible refine Kd.C_drewN ?_ _) | (with_reducible refine Kd.C_drew ?_))); (case side2 => exact (Kd.V_reads' HO2_3.out).2.1); rintro e w11 ⟨rfl, hb⟩; refine ⟨_, rfl, ?_⟩; have n0_ := Aside0.mk (Kd.V_below (by (with_reducible repeat (first | apply Kd.V_alloc | apply Kd.V_drewN | apply Kd.V_drew)); exact HO0.out) hb); have n1_ := Aside0.mk (Kd.V_below (by (with_reducible repeat (first | apply Kd.V_alloc | apply Kd.V_drewN | apply Kd.V_drew)); exact HO2_3.out) hb); have n2_ := Aside0.mk (blk_below (g := gb154) (o := .cells #[.int .i64 a2_0, .int .u32 a2_1, .bool a2_2, .slice A2_3 l2_3.length c2_3, .int .i64 a2_4] 28 (0, 0)) (by (with_reducible repeat (first | refine blk_drewN ?_ _ | refine blk_drew ?_ | refine blk_alloc ?_ _)); exact BK154.out) hb); have n3_ := Aside0.mk (below_step (by repeat (first | (with_reducible first | exact HB.out | apply below_alloc | apply pw_below_drewN | apply below_drew1 | refine below_set ?_ GE154.out) | exact HB.out)) hb); clear HO0; clear HO2_3; clear BK154; clear HB; have HO0 := n0_; have HO2_3 := n1_; have BK154 := n2_; have HB := n3_; clear n0_ n1_ n2_ n3_; (try clear hb); (try clear hb2); (try clear hk); (try clear hi)) | ((with_reducible refine gate_callee (f := 22) rfl ?_); refine goesL_ (some 18) rfl rfl Try.func22 (by kernel_rfl) rfl #[.slice A0 l0.length c0, .int .i64 a1] rfl (by (try simp only [List.map_toArray, List.map_cons, List.map_nil]); first | done | rfl | (simp only [List.length_drop, List.length_take]; rfl)) ?_; (with_reducible refine (purlieuref13_Free.calls k _ _ l0 a1 t156 t157 _ ?side1 ?side2 A6.out).mono ?_); (case side1 => repeat (first | exact (Kd.V_reads' HO0.out).2.2 | (with_reducible refine Kd.C_alloc ?_ _) | (with_reducible refine Kd.C_drewN ?_ _) | (with_reducible refine Kd.C_drew ?_))); (case side2 => exact (Kd.V_reads' HO0.out).2.1); rintro e w' ⟨rfl, ⟨nd, rfl⟩⟩; refine ⟨_, rfl, ?_⟩; have hcz12_0 : w11.cell? ⟨gb154, 0, none⟩ = some (.int .i64 a2_0) := (blk_cell BK154.out 0).trans rfl; have hcz12_1 : w11.cell? ⟨gb154, 1, none⟩ = some (.int .u32 a2_1) := (blk_cell BK154.out 1).trans rfl; have hcz12_2 : w11.cell? ⟨gb154, 2, none⟩ = some (.bool a2_2) := (blk_cell BK154.out 2).trans rfl; have hcz12_3 : w11.cell? ⟨gb154, 3, none⟩ = some (.slice A2_3 l2_3.length c2_3) := (blk_cell BK154.out 3).trans rfl; have hcz12_4 : w11.cell? ⟨gb154, 4, none⟩ = some (.int .i64 a2_4) := (blk_cell BK154.out 4).trans rfl; have hfz12_0 := blk_frozen BK154.out 0; have hfz12_1 := blk_frozen BK154.out 1; have hfz12_2 := blk_frozen BK154.out 2; have hfz12_3 := blk_frozen BK154.out 3; have hfz12_4 := blk_frozen BK154.out 4) | ((with_reducible refine gate_callee (f := 44) rfl ?_); refine goesL_ (some 28) rfl rfl Try.func44 (by kernel_rfl) rfl #[.slice A0 l0.length c0, .int .i64 t156, .agg #[.int .i64 a2_0, .int .u32 a2_1, .bool a2_2, .slice A2_3 l2_3.length c2_3, .int .i64 a2_4]] rfl (by (try simp only [List.map_toArray, List.map_cons, List.map_nil]); first | done | rfl | (simp only [List.length_drop, List.length_take]; rfl)) ?_; (with_reducible refine (purlieuref13_With.calls (fun k_ => (((P0_ k_ ∨ P2_3_ k_) ∨ w.heap.size ≤ k_) ∧ k_ ≠ gb154)) _ _ l0 t156 a2_0 a2_1 a2_2 (fun k_ => (((P0_ k_ ∨ P2_3_ k_) ∨ w.heap.size ≤ k_) ∧ k_ ≠ gb154)) _ _ l2_3 a2_4 t158 _ ?side1 ?side2 A8.out).mono ?_); (case side1 => exact HO0.out); (case side2 => exact HO2_3.out); rintro e w13 ⟨v159, rfl, ho0, hb⟩; refine ⟨_, rfl, ?_⟩; have n0_ := Aside0.mk (Kd.V_elder' (by (with_reducible repeat (first | apply Kd.V_alloc | apply Kd.V_drewN | apply Kd.V_drew)); exact HO0.out) (Kd.N_base ho0) hb); have n1_ := Aside0.mk (Kd.V_elder' (by (with_reducible repeat (first | apply Kd.V_alloc | apply Kd.V_drewN | apply Kd.V_drew)); exact HO2_3.out) (Kd.N_base ho0) hb); have n2_ := Aside0.mk (Kd.N_lower (Kd.N_mono (ok' := fun k_ => ((P0_ k_ ∨ P2_3_ k_) ∨ w.heap.size ≤ k_) ∧ k_ ≠ gb154) ho0 (fun k_ hk_ => ⟨Or.elim hk_ (fun hs_ => Or.elim hs_ (fun hs_ => hs_.1) (fun hs_ => hs_.1)) (fun hn_ => (.inr (Nat.le_trans (below_size (by repeat (first | (with_reducible first | exact HB.out | apply below_alloc | apply pw_below_drewN | apply below_drew1 | refine below_set ?_ GE154.out) | exact HB.out))) hn_))), Or.elim hk_ (fun hs_ => Or.elim hs_ (fun hs_ => hs_.2) (fun hs_ => hs_.2)) (fun hn_ => (Kd.freshB (g := gb154) (o := .cells #[.int .i64 a2_0, .int .u32 a2_1, .bool a2_2, .slice A2_3 l2_3.length c2_3, .int .i64 a2_4] 28 (0, 0)) (by (with_reducible repeat (first | refine blk_drewN ?_ _ | refine blk_drew ?_ | refine blk_alloc ?_ _)); exact BK154.out) k_ hn_))⟩)) (below_size (by repeat (first | (with_reducible first | exact HB.out | apply below_alloc | apply pw_below_drewN | apply below_drew1 | refine below_set ?_ GE154.out) | exact HB.out)))); have n3_ := Aside0.mk (blk_below (g := gb154) (o := .cells #[.int .i64 a2_0, .int .u32 a2_1, .bool a2_2, .slice A2_3 l2_3.length c2_3, .int .i64 a2_4] 28 (0, 0)) (by (with_reducible repeat (first | refine blk_drewN ?_ _ | refine blk_drew ?_ | refine blk_alloc ?_ _)); exact BK154.out) hb); have n4_ := Aside0.mk (below_step (by repeat (first | (with_reducible first | exact HB.out | apply below_alloc | apply pw_below_drewN | apply below_drew1 | refine below_set ?_ GE154.out) | exact HB.out)) hb); clear HO0; clear HO2_3; clear BK154; clear HB; have HO0 := n0_; have HO2_3 := n1_; have HO160 := n2_; have BK154 := n3_; have HB := n4_; clear n0_ n1_ n2_ n3_ n4_; (try clear hb); (try clear hb2); (try clear hk); (try clear hi); (try clear ho0)))
      go_ret3
      exact ⟨_, by first | rfl | (simp [errW_none, errW_some] <;> rfl) | (simp [*, errW_none, errW_some] <;> rfl), Kd.N_V (by (with_reducible repeat (first | apply Kd.N_alloc | apply Kd.N_drewN | apply Kd.N_drew)); exact Kd.N_mono HO160.out (fun _ hk => hk.1)), by repeat (first | (with_reducible first | exact HB.out | apply below_alloc | apply pw_below_drewN | apply below_drew1 | refine below_set ?_ GE154.out) | exact HB.out)⟩
    · rw [if_neg c7] at H
      have c7b0 : (t157 == 0) = false := beq_eq_false_iff_ne.mpr c7
      have c7b1 : (t157 != 0) = true := bne_iff_ne.mpr c7
      simp only [Option.some.injEq, Prod.mk.injEq] at H
      obtain ⟨rfl, rfl, rfl⟩ := H
      go_enter Try.func48, Try.ntmps48
      go_wp2_with (first | ((with_reducible refine gate_dst (N := 5) rfl ?_); refine box_event ?hg (N := 5) ?hd (cs := #[.int .i64 a2_0, .int .u32 a2_1, .bool a2_2, .slice A2_3 l2_3.length c2_3, .int .i64 a2_4]) (t := 28) ?hr ?_; (case hd => rfl); (case hg => rfl); (case hr => first | (go_simp; done) | (go_simp; rfl)); intro gb154 hg w14 hbox hb; have n0_ := Aside0.mk (Kd.V_below (Kd.V_elderB (by (with_reducible repeat (first | apply Kd.V_alloc | apply Kd.V_drewN | apply Kd.V_drew)); exact HO0.out) gb154 (Nat.le_of_eq hg.symm)) hb); have n1_ := Aside0.mk (Kd.V_below (Kd.V_elderB (by (with_reducible repeat (first | apply Kd.V_alloc | apply Kd.V_drewN | apply Kd.V_drew)); exact HO2_3.out) gb154 (Nat.le_of_eq hg.symm)) hb); have n2_ := Aside0.mk (below_step (by repeat (first | (with_reducible first | exact HB.out | apply below_alloc | apply pw_below_drewN | apply below_drew1) | exact HB.out)) hb); have n3_ := Aside0.mk (hbox); have n4_ := Aside0.mk ((by rw [hg]; exact (below_size (by repeat (first | (with_reducible first | exact HB.out | apply below_alloc | apply pw_below_drewN | apply below_drew1) | exact HB.out))) : w.heap.size ≤ gb154)); have n5_ := Aside0.mk ((by rw [hg]; exact (below_size (by repeat (first | (with_reducible first | exact HB.out | apply below_alloc | apply pw_below_drewN | apply below_drew1) | exact HB.out))) : w.heap.size ≤ gb154)); clear HO0; clear HO2_3; clear HB; have HO0 := n0_; have HO2_3 := n1_; have HB := n2_; have BK154 := n3_; have GW154 := n4_; have GE154 := n5_; clear n0_ n1_ n2_ n3_ n4_ n5_; clear hb hbox hg; have hcz15_0 : w14.cell? ⟨gb154, 0, none⟩ = some (.int .i64 a2_0) := (blk_cell BK154.out 0).trans rfl; have hcz15_1 : w14.cell? ⟨gb154, 1, none⟩ = some (.int .u32 a2_1) := (blk_cell BK154.out 1).trans rfl; have hcz15_2 : w14.cell? ⟨gb154, 2, none⟩ = some (.bool a2_2) := (blk_cell BK154.out 2).trans rfl; have hcz15_3 : w14.cell? ⟨gb154, 3, none⟩ = some (.slice A2_3 l2_3.length c2_3) := (blk_cell BK154.out 3).trans rfl; have hcz15_4 : w14.cell? ⟨gb154, 4, none⟩ = some (.int .i64 a2_4) := (blk_cell BK154.out 4).trans rfl; have hfz15_0 := blk_frozen BK154.out 0; have hfz15_1 := blk_frozen BK154.out 1; have hfz15_2 := blk_frozen BK154.out 2; have hfz15_3 := blk_frozen BK154.out 3; have hfz15_4 := blk_frozen BK154.out 4) | ((with_reducible refine gate_callee (f := 9) rfl ?_); refine goesL_ (some 12) rfl rfl Try.func9 (by kernel_rfl) rfl #[.agg #[.int .i64 a2_0, .int .u32 a2_1, .bool a2_2, .slice A2_3 l2_3.length c2_3, .int .i64 a2_4]] rfl (by (try simp only [List.map_toArray, List.map_cons, List.map_nil]); first | done | rfl | (simp only [List.length_drop, List.length_take]; rfl)) ?_; (with_reducible refine (purlieuref13_Can.calls k a2_0 a2_1 a2_2 _ _ l2_3 a2_4 true _ ?side1 ?side2 A4.out).mono ?_); (case side1 => repeat (first | exact (Kd.V_reads' HO2_3.out).2.2 | (with_reducible refine Kd.C_alloc ?_ _) | (with_reducible refine Kd.C_drewN ?_ _) | (with_reducible refine Kd.C_drew ?_))); (case side2 => exact (Kd.V_reads' HO2_3.out).2.1); rintro e w16 ⟨rfl, hb⟩; refine ⟨_, rfl, ?_⟩; have n0_ := Aside0.mk (Kd.V_below (by (with_reducible repeat (first | apply Kd.V_alloc | apply Kd.V_drewN | apply Kd.V_drew)); exact HO0.out) hb); have n1_ := Aside0.mk (Kd.V_below (by (with_reducible repeat (first | apply Kd.V_alloc | apply Kd.V_drewN | apply Kd.V_drew)); exact HO2_3.out) hb); have n2_ := Aside0.mk (blk_below (g := gb154) (o := .cells #[.int .i64 a2_0, .int .u32 a2_1, .bool a2_2, .slice A2_3 l2_3.length c2_3, .int .i64 a2_4] 28 (0, 0)) (by (with_reducible repeat (first | refine blk_drewN ?_ _ | refine blk_drew ?_ | refine blk_alloc ?_ _)); exact BK154.out) hb); have n3_ := Aside0.mk (below_step (by repeat (first | (with_reducible first | exact HB.out | apply below_alloc | apply pw_below_drewN | apply below_drew1 | refine below_set ?_ GE154.out) | exact HB.out)) hb); clear HO0; clear HO2_3; clear BK154; clear HB; have HO0 := n0_; have HO2_3 := n1_; have BK154 := n2_; have HB := n3_; clear n0_ n1_ n2_ n3_; (try clear hb); (try clear hb2); (try clear hk); (try clear hi)) | ((with_reducible refine gate_callee (f := 22) rfl ?_); refine goesL_ (some 18) rfl rfl Try.func22 (by kernel_rfl) rfl #[.slice A0 l0.length c0, .int .i64 a1] rfl (by (try simp only [List.map_toArray, List.map_cons, List.map_nil]); first | done | rfl | (simp only [List.length_drop, List.length_take]; rfl)) ?_; (with_reducible refine (purlieuref13_Free.calls k _ _ l0 a1 t156 t157 _ ?side1 ?side2 A6.out).mono ?_); (case side1 => repeat (first | exact (Kd.V_reads' HO0.out).2.2 | (with_reducible refine Kd.C_alloc ?_ _) | (with_reducible refine Kd.C_drewN ?_ _) | (with_reducible refine Kd.C_drew ?_))); (case side2 => exact (Kd.V_reads' HO0.out).2.1); rintro e w' ⟨rfl, ⟨nd, rfl⟩⟩; refine ⟨_, rfl, ?_⟩))
      go_ret3
      exact ⟨_, by first | rfl | (simp [errW_none, errW_some] <;> rfl) | (simp [*, errW_none, errW_some] <;> rfl), by (with_reducible repeat (first | apply Kd.V_alloc | apply Kd.V_drewN | apply Kd.V_drew)); exact Kd.V_mono HO0.out (fun _ hk => hk.1), by repeat (first | (with_reducible first | exact HB.out | apply below_alloc | apply pw_below_drewN | apply below_drew1 | refine below_set ?_ GE154.out) | exact HB.out)⟩
  · replace c5 := Bool.eq_false_iff.mpr c5
    subst c5
    have H1 : (some (l0, 0, 22)) = some (r1, r2, r3) := by rw [if_neg (show ¬ (false = true) by decide)] at H; exact H
    clear H
    have H := H1
    clear H1
    simp only [Option.some.injEq, Prod.mk.injEq] at H
    obtain ⟨rfl, rfl, rfl⟩ := H
    go_enter Try.func48, Try.ntmps48
    go_wp2_with (first | ((with_reducible refine gate_dst (N := 5) rfl ?_); refine box_event ?hg (N := 5) ?hd (cs := #[.int .i64 a2_0, .int .u32 a2_1, .bool a2_2, .slice A2_3 l2_3.length c2_3, .int .i64 a2_4]) (t := 28) ?hr ?_; (case hd => rfl); (case hg => rfl); (case hr => first | (go_simp; done) | (go_simp; rfl)); intro gb154 hg w17 hbox hb; have n0_ := Aside0.mk (Kd.V_below (Kd.V_elderB (by (with_reducible repeat (first | apply Kd.V_alloc | apply Kd.V_drewN | apply Kd.V_drew)); exact HO0.out) gb154 (Nat.le_of_eq hg.symm)) hb); have n1_ := Aside0.mk (Kd.V_below (Kd.V_elderB (by (with_reducible repeat (first | apply Kd.V_alloc | apply Kd.V_drewN | apply Kd.V_drew)); exact HO2_3.out) gb154 (Nat.le_of_eq hg.symm)) hb); have n2_ := Aside0.mk (below_step (by repeat (first | (with_reducible first | exact HB.out | apply below_alloc | apply pw_below_drewN | apply below_drew1) | exact HB.out)) hb); have n3_ := Aside0.mk (hbox); have n4_ := Aside0.mk ((by rw [hg]; exact (below_size (by repeat (first | (with_reducible first | exact HB.out | apply below_alloc | apply pw_below_drewN | apply below_drew1) | exact HB.out))) : w.heap.size ≤ gb154)); have n5_ := Aside0.mk ((by rw [hg]; exact (below_size (by repeat (first | (with_reducible first | exact HB.out | apply below_alloc | apply pw_below_drewN | apply below_drew1) | exact HB.out))) : w.heap.size ≤ gb154)); clear HO0; clear HO2_3; clear HB; have HO0 := n0_; have HO2_3 := n1_; have HB := n2_; have BK154 := n3_; have GW154 := n4_; have GE154 := n5_; clear n0_ n1_ n2_ n3_ n4_ n5_; clear hb hbox hg; have hcz18_0 : w17.cell? ⟨gb154, 0, none⟩ = some (.int .i64 a2_0) := (blk_cell BK154.out 0).trans rfl; have hcz18_1 : w17.cell? ⟨gb154, 1, none⟩ = some (.int .u32 a2_1) := (blk_cell BK154.out 1).trans rfl; have hcz18_2 : w17.cell? ⟨gb154, 2, none⟩ = some (.bool a2_2) := (blk_cell BK154.out 2).trans rfl; have hcz18_3 : w17.cell? ⟨gb154, 3, none⟩ = some (.slice A2_3 l2_3.length c2_3) := (blk_cell BK154.out 3).trans rfl; have hcz18_4 : w17.cell? ⟨gb154, 4, none⟩ = some (.int .i64 a2_4) := (blk_cell BK154.out 4).trans rfl; have hfz18_0 := blk_frozen BK154.out 0; have hfz18_1 := blk_frozen BK154.out 1; have hfz18_2 := blk_frozen BK154.out 2; have hfz18_3 := blk_frozen BK154.out 3; have hfz18_4 := blk_frozen BK154.out 4) | ((with_reducible refine gate_callee (f := 9) rfl ?_); refine goesL_ (some 12) rfl rfl Try.func9 (by kernel_rfl) rfl #[.agg #[.int .i64 a2_0, .int .u32 a2_1, .bool a2_2, .slice A2_3 l2_3.length c2_3, .int .i64 a2_4]] rfl (by (try simp only [List.map_toArray, List.map_cons, List.map_nil]); first | done | rfl | (simp only [List.length_drop, List.length_take]; rfl)) ?_; (with_reducible refine (purlieuref13_Can.calls k a2_0 a2_1 a2_2 _ _ l2_3 a2_4 false _ ?side1 ?side2 A4.out).mono ?_); (case side1 => repeat (first | exact (Kd.V_reads' HO2_3.out).2.2 | (with_reducible refine Kd.C_alloc ?_ _) | (with_reducible refine Kd.C_drewN ?_ _) | (with_reducible refine Kd.C_drew ?_))); (case side2 => exact (Kd.V_reads' HO2_3.out).2.1); rintro e w19 ⟨rfl, hb⟩; refine ⟨_, rfl, ?_⟩; have n0_ := Aside0.mk (Kd.V_below (by (with_reducible repeat (first | apply Kd.V_alloc | apply Kd.V_drewN | apply Kd.V_drew)); exact HO0.out) hb); have n1_ := Aside0.mk (Kd.V_below (by (with_reducible repeat (first | apply Kd.V_alloc | apply Kd.V_drewN | apply Kd.V_drew)); exact HO2_3.out) hb); have n2_ := Aside0.mk (blk_below (g := gb154) (o := .cells #[.int .i64 a2_0, .int .u32 a2_1, .bool a2_2, .slice A2_3 l2_3.length c2_3, .int .i64 a2_4] 28 (0, 0)) (by (with_reducible repeat (first | refine blk_drewN ?_ _ | refine blk_drew ?_ | refine blk_alloc ?_ _)); exact BK154.out) hb); have n3_ := Aside0.mk (below_step (by repeat (first | (with_reducible first | exact HB.out | apply below_alloc | apply pw_below_drewN | apply below_drew1 | refine below_set ?_ GE154.out) | exact HB.out)) hb); clear HO0; clear HO2_3; clear BK154; clear HB; have HO0 := n0_; have HO2_3 := n1_; have BK154 := n2_; have HB := n3_; clear n0_ n1_ n2_ n3_; (try clear hb); (try clear hb2); (try clear hk); (try clear hi)))
    go_ret3
    exact ⟨_, by first | rfl | (simp [errW_none, errW_some] <;> rfl) | (simp [*, errW_none, errW_some] <;> rfl), by (with_reducible repeat (first | apply Kd.V_alloc | apply Kd.V_drewN | apply Kd.V_drew)); exact Kd.V_mono HO0.out (fun _ hk => hk.1), by repeat (first | (with_reducible first | exact HB.out | apply below_alloc | apply pw_below_drewN | apply below_drew1 | refine below_set ?_ GE154.out) | exact HB.out)⟩
end Go.Proofs.Ytilfalpfanaanaa.PA

namespace Go.Proofs.Ytilfalpfanaanaa.PA
open Go.RowKit Go.Proofs.YtilfalpfanaanaaW.PrintWords Go.Proofs.YtilfalpfanaanaaW.PrintLast Go.Proofs.YtilfalpfanaanaaW.PrintMore Go.Proofs.Ytilfalpfanaanaa.Sx
def toS : Option Slot → Slot
  | none => z28
  | some s => s
def ls (ss : List (Option Slot)) : List Slot := ss.map toS
theorem ls_len (ss : List (Option Slot)) : (ls ss).length = ss.length := by simp [ls]
theorem ls_set (ss : List (Option Slot)) (i : Nat) (x : Option Slot) : (ls ss).set i (toS x) = ls (ss.set i x) := by simp [ls, List.map_set]
theorem rd_ls (ss : List (Option Slot)) (i : Int) {x : Option Slot} (h : ss[i.toNat]? = some x) : rd_T28 (ls ss) i = toS x := by
  unfold rd_T28 ls
  rw [List.getD_eq_getElem?_getD, List.getElem?_map, h]; rfl
structure GoodS (s : Slot) : Prop where
  pos : 0 < s.f0
  rts : 0 ≤ s.f1
  len : s.f2.f1.length ≤ 200
def Good (ss : List (Option Slot)) : Prop := ∀ (i : Nat) s, ss[i]? = some (some s) → GoodS s
theorem Good.set {ss : List (Option Slot)} (h : Good ss) (i : Nat) {x : Option Slot} (hx : ∀ s, x = some s → GoodS s) : Good (ss.set i x) := fun j s hj => by
  rcases get_set hj with ⟨_, e, _⟩ | ⟨_, hj⟩
  · exact hx s e
  · exact h j s hj
theorem get_lt {ss : List (Option Slot)} {i : Nat} {x : Option Slot} (h : ss[i]? = some x) : i < ss.length := (List.getElem?_eq_some_iff.1 h).1
theorem rget_bad (ss : List (Option Slot)) (hg : Good ss) (fd need : Int) (hq : ∀ s, 0 ≤ fd → ss[fd.toNat]? ≠ some (some s)) : purlieuref13_Get.f 40 (ls ss) fd need = some 9 := by
  unfold purlieuref13_Get.f
  by_cases h0 : fd < 0
  · rw [if_pos h0]; rfl
  rw [if_neg h0]
  by_cases h1 : fd ≥ ((ls ss).length : Int)
  · rw [if_pos h1]; rfl
  rw [if_neg h1, if_pos (by omega), if_pos (by omega)]
  have hl := ls_len ss
  have hx : ss[fd.toNat]? = some none := by
    cases e : ss[fd.toNat]? with
    | none => have := List.getElem?_eq_none_iff.1 e; omega
    | some x => cases x with
      | none => rfl
      | some s => exact absurd e (hq s (by omega))
  rw [rd_ls ss fd hx]; rfl
theorem rget_some (ss : List (Option Slot)) (hg : Good ss) (fd need : Int) (h0 : 0 ≤ fd) {s : Slot} (hs : ss[fd.toNat]? = some (some s)) (hn : 0 ≤ need) : purlieuref13_Get.f 40 (ls ss) fd need = some (if Go.bits .andNot .u32 need s.f1 = 0 then 0 else 93) := by
  unfold purlieuref13_Get.f
  have hl := ls_len ss
  have := get_lt hs
  have hp := hg _ _ hs
  rw [if_neg (by omega), if_neg (by omega), if_pos h0, if_pos (by omega), rd_ls ss fd hs]
  have hz : ((toS (some s)).f0 == 0) = false := beq_eq_false_iff_ne.2 (by show s.f0 ≠ 0; have := hp.pos; omega)
  rw [hz]
  simp only [purlieuref13_Get.j0]
  rw [if_neg (by simp), if_pos h0, if_pos (by omega), rd_ls ss fd hs]
  show (purlieuref01_Subset.f 39 need s.f1).bind _ = _
  rw [BitsLaw32.subset_eq need s.f1 hn hp.rts 39 (by omega)]
  simp only [Option.bind_some]
  by_cases hb : Go.bits .andNot .u32 need s.f1 = 0
  · rw [if_pos hb, hb]; rfl
  · rw [if_neg hb, beq_eq_false_iff_ne.2 hb]; rfl
theorem rget_zero (ss : List (Option Slot)) (hg : Good ss) (fd : Int) (h0 : 0 ≤ fd) {s : Slot} (hs : ss[fd.toNat]? = some (some s)) : purlieuref13_Get.f 40 (ls ss) fd 0 = some 0 := by
  rw [rget_some ss hg fd 0 h0 hs (Int.le_refl 0), if_pos (show Go.bits .andNot .u32 0 s.f1 = 0 from an32_zero s.f1)]
theorem rfree_out (ss : List (Option Slot)) (fd : Int) (h : fd < 0 ∨ (ss.length : Int) ≤ fd) : purlieuref13_Free.f 200 (ls ss) fd = some (0, 22) := by
  unfold purlieuref13_Free.f
  have hl := ls_len ss
  by_cases h0 : fd < 0
  · rw [if_pos h0]; rfl
  · rw [if_neg h0, decide_eq_true (show fd ≥ ((ls ss).length : Int) by omega)]; rfl
theorem rfree_in {w : World} {b g p : Nat} {ok : Nat → Prop} {qs : List (Option Nat)} {ss : List (Option Slot)} (h : TabAt w b ok g p qs ss) (hg : Good ss) (fd : Int) (h0 : 0 ≤ fd) (h1 : fd < (qs.length : Int)) :
    purlieuref13_Free.f 200 (ls ss) fd = some (freeR qs fd) := by
  have hl := ls_len ss
  have hlen := h.len
  have key : ∀ (d k i : Nat), i + d = qs.length → d < k → purlieuref13_Free.l0 k (ls ss) (i : Int) = some (if nfree (qs.drop i) < d then ((i : Int) + nfree (qs.drop i), 0) else (0, 24)) := by
    intro d
    induction d with
    | zero =>
      intro k i hi hk
      obtain ⟨k, rfl⟩ : ∃ m, k = m + 1 := ⟨k - 1, by omega⟩
      simp only [purlieuref13_Free.l0]
      rw [if_neg (by omega), if_neg (by omega)]
    | succ d ih =>
      intro k i hi hk
      obtain ⟨k, rfl⟩ : ∃ m, k = m + 1 := ⟨k - 1, by omega⟩
      have hlt : i < qs.length := by omega
      have hdrop : qs.drop i = qs[i] :: qs.drop (i + 1) := List.drop_eq_getElem_cons hlt
      simp only [purlieuref13_Free.l0]
      rw [if_pos (by omega), if_pos (by omega)]
      cases e : qs[i] with
      | none =>
        have e' : qs[i]? = some none := by rw [List.getElem?_eq_getElem hlt, e]
        have hr : rd_T28 (ls ss) (i : Int) = z28 := rd_ls ss (i : Int) (x := none) (by simpa using h.non i e')
        have hn : nfree (qs.drop i) = 0 := by rw [hdrop, e]; rfl
        rw [hr, if_pos (show z28.f0 = 0 from rfl), hn, if_pos (by omega)]
        simp
      | some q =>
        have e' : qs[i]? = some (some q) := by rw [List.getElem?_eq_getElem hlt, e]
        obtain ⟨_, _, s, hs, _⟩ := h.som i q e'
        have hr : rd_T28 (ls ss) (i : Int) = s := rd_ls ss (i : Int) (x := some s) (by simpa using hs)
        have hn : nfree (qs.drop i) = nfree (qs.drop (i + 1)) + 1 := by rw [hdrop, e]; rfl
        have hp := (hg _ _ hs).pos
        have hw : wrap64 ((i : Int) + 1) = ((i + 1 : Nat) : Int) := by have := h.few.2; unfold wrap64; omega
        rw [hr, if_neg (by omega), hw, ih k (i + 1) (by omega) (by omega), hn]
        by_cases hc : nfree (qs.drop (i + 1)) < d
        · rw [if_pos hc, if_pos (by omega)]
          congr 2
          push_cast; omega
        · rw [if_neg hc, if_neg (by omega)]
  have hfew := h.few.2
  unfold purlieuref13_Free.f
  rw [if_neg (by omega), decide_eq_false (show ¬ fd ≥ ((ls ss).length : Int) by omega)]
  simp only [purlieuref13_Free.j0]
  rw [if_neg (by simp)]
  have := key (qs.length - fd.toNat) 199 fd.toNat (by omega) (by omega)
  rw [show ((fd.toNat : Nat) : Int) = fd by omega] at this
  rw [this]; rfl
theorem rwith (ss : List (Option Slot)) (hl : ss.length ≤ 64) (i : Int) (h0 : 0 ≤ i) (h1 : i < (ss.length : Int)) (x : Option Slot) :
    purlieuref13_With.f (ls ss) i (toS x).f0 (toS x).f1 (toS x).f2.f0 (toS x).f2.f1 (toS x).f3 = some (ls (ss.set i.toNat x)) := by
  unfold purlieuref13_With.f
  have h2 := ls_len ss
  simp only [Option.bind_some]
  rw [if_pos (by simp; omega), if_pos h0, if_pos (by simp; omega)]
  show some (([] ++ ls ss).set i.toNat (toS x)) = _
  rw [List.nil_append, ls_set]
theorem rall (ss : List (Option Slot)) (hg : Good ss) (hl : ss.length ≤ 64) : purlieuref13_All.f 80 (ls ss) = some (idxs ss ss.length) := by
  have h2 := ls_len ss
  have key : ∀ (d k i : Nat), i + d = ss.length → d < k → purlieuref13_All.l0 k (ls ss) (idxs ss i) (i : Int) = some (idxs ss ss.length) := by
    intro d
    induction d with
    | zero =>
      intro k i hi hk
      obtain ⟨k, rfl⟩ : ∃ m, k = m + 1 := ⟨k - 1, by omega⟩
      simp only [purlieuref13_All.l0]
      rw [if_neg (by omega), show i = ss.length by omega]
    | succ d ih =>
      intro k i hi hk
      obtain ⟨k, rfl⟩ : ∃ m, k = m + 1 := ⟨k - 1, by omega⟩
      have hlt : i < ss.length := by omega
      have hle := idxs_le ss i
      have hw : wrap64 ((i : Int) + 1) = ((i + 1 : Nat) : Int) := by unfold wrap64; omega
      simp only [purlieuref13_All.l0]
      rw [if_pos (by omega), if_pos (by omega), hw]
      have hx : ss[i]? = some ss[i] := List.getElem?_eq_getElem hlt
      cases e : ss[i] with
      | none =>
        rw [e] at hx
        have hr : rd_T28 (ls ss) (i : Int) = z28 := rd_ls ss (i : Int) (x := none) (by simpa using hx)
        rw [hr, if_neg (by decide)]
        have := ih k (i + 1) (by omega) (by omega)
        rw [idxs_none ss i hx] at this
        exact this
      | some s =>
        rw [e] at hx
        have hr : rd_T28 (ls ss) (i : Int) = s := rd_ls ss (i : Int) (x := some s) (by simpa using hx)
        have hp := (hg _ _ hx).pos
        rw [hr, if_pos hp, if_pos (by omega)]
        have := ih k (i + 1) (by omega) (by omega)
        rw [idxs_some ss i hx] at this
        exact this
  exact key ss.length 80 0 (by omega) (by omega)
end Go.Proofs.Ytilfalpfanaanaa.PA

namespace Go.Proofs.Ytilfalpfanaanaa.PA
open Go.RowKit Go.Proofs.YtilfalpfanaanaaW.PrintWords Go.Proofs.YtilfalpfanaanaaW.PrintLast Go.Proofs.YtilfalpfanaanaaW.PrintMore Go.Proofs.Ytilfalpfanaanaa.Sx
abbrev LV (w : World) (P : Nat → Prop) (ad : Addr) (c : Nat) (l : List Slot) : Prop := Kd.V k28 28 w 0 P (.slice (some ad) l.length c) l
theorem LV_ob {w : World} {P : Nat → Prop} {ad : Addr} {c : Nat} {l : List Slot} (h : LV w P ad c l) (hl : 0 < l.length) : ∃ ob, w.heap[ad.block]? = some ob := by
  obtain ⟨cs, hlen, _, hc⟩ := Kd.V_get h z28 0 (Int.le_refl 0) (by omega)
  have hne : 0 < cs.length := by rw [hlen]; decide
  have := hc 0 cs[0] (List.getElem?_eq_getElem hne)
  cases e : w.heap[ad.block]? with
  | some ob => exact ⟨ob, rfl⟩
  | none => simp [World.cell?, Sx.add_block, e] at this
theorem LV_at {w : World} {P : Nat → Prop} {ad : Addr} {c : Nat} {ss : List (Option Slot)} (h : LV w P ad c (ls ss)) {i : Int} (h0 : 0 ≤ i) {x : Option Slot} (hx : ss[i.toNat]? = some x) :
    ∃ A3 c3, (∀ j u, [Value.int .i64 (toS x).f0, .int .u32 (toS x).f1, .bool (toS x).f2.f0, .slice A3 (toS x).f2.f1.length c3, .int .i64 (toS x).f3][j]? = some u → w.cell? (ad.add (i.toNat * 5 + j)) = some u) ∧ (toS x).f2.f1.length ≤ c3 ∧ Kd.F (Kd.int .i64) w P A3 (toS x).f2.f1.length (toS x).f2.f1 := by
  have hlt := get_lt hx
  have hl := ls_len ss
  obtain ⟨cs, _, hK, hc⟩ := Kd.V_get h z28 i h0 (by omega)
  have hr : (ls ss).getD i.toNat z28 = toS x := rd_ls ss i hx
  rw [hr] at hK
  obtain ⟨A3, c3, rfl, h3, h4⟩ := k28_openF hK
  exact ⟨A3, c3, hc, h3, h4⟩
theorem LV_C {w : World} {P : Nat → Prop} {ad : Addr} {c : Nat} {l : List Slot} (h : LV w P ad c l) : Kd.C k28 w (some ad) l.length l ∧ l.length ≤ c := ⟨(Kd.V_reads' h).2.2, (Kd.V_reads' h).2.1⟩
theorem has_28 (r : Int) (h0 : 0 ≤ r) : PA.purlieuref01_Has.f r 28 = some (!decide (Go.bits .and .u32 r 268435456 = 0)) := by
  rw [show (28 : Int) = ((28 : Nat) : Int) from rfl, BitsLaw32.has_eq r h0 28 (by omega)]
  congr 1
  have hb : ∀ i, i < 32 → (BitsLaw32.bt32 268435456 i = true ↔ i = 28) := by decide +kernel
  by_cases h : Go.bits .and .u32 r 268435456 = 0
  · rw [decide_eq_true h]
    cases e : BitsLaw32.bt32 r 28 with
    | false => rfl
    | true => have := (BitsLaw32.and_zero _ _).1 h 28 (by omega) e; rw [(hb 28 (by omega)).2 rfl] at this; cases this
  · rw [decide_eq_false h]
    cases e : BitsLaw32.bt32 r 28 with
    | true => rfl
    | false => exact absurd ((BitsLaw32.and_zero _ _).2 fun i hi hr => by
        cases e2 : BitsLaw32.bt32 268435456 i with
        | false => rfl
        | true => rw [(hb i hi).1 e2] at hr; rw [hr] at e; cases e) h
theorem has_9 (r : Int) (h0 : 0 ≤ r) : PA.purlieuref01_Has.f r 9 = some (!decide (Go.bits .and .u32 r 512 = 0)) := by
  rw [show (9 : Int) = ((9 : Nat) : Int) from rfl, BitsLaw32.has_eq r h0 9 (by omega)]
  congr 1
  have hb : ∀ i, i < 32 → (BitsLaw32.bt32 512 i = true ↔ i = 9) := by decide +kernel
  by_cases h : Go.bits .and .u32 r 512 = 0
  · rw [decide_eq_true h]
    cases e : BitsLaw32.bt32 r 9 with
    | false => rfl
    | true => have := (BitsLaw32.and_zero _ _).1 h 9 (by omega) e; rw [(hb 9 (by omega)).2 rfl] at this; cases this
  · rw [decide_eq_false h]
    cases e : BitsLaw32.bt32 r 9 with
    | true => rfl
    | false => exact absurd ((BitsLaw32.and_zero _ _).2 fun i hi hr => by
        cases e2 : BitsLaw32.bt32 512 i with
        | false => rfl
        | true => rw [(hb i hi).1 e2] at hr; rw [hr] at e; cases e) h
theorem With_ls {w : World} {P P2 : Nat → Prop} {ad : Addr} {c : Nat} {ss : List (Option Slot)} (h : LV w P ad c (ls ss)) (hl : ss.length ≤ 64) (i : Int) (h0 : 0 ≤ i) (h1 : i < (ss.length : Int)) (x : Option Slot) {A : Option Addr} {c2 : Nat} (hr : Kd.V (Kd.int .i64) 3 w 0 P2 (.slice A (toS x).f2.f1.length c2) (toS x).f2.f1) :
    Calls Try.prog 44 #[.slice (some ad) (ls ss).length c, .int .i64 i, .agg #[.int .i64 (toS x).f0, .int .u32 (toS x).f1, .bool (toS x).f2.f0, .slice A (toS x).f2.f1.length c2, .int .i64 (toS x).f3]] w fun e w' => ∃ ad' c', e = .returned (.slice (some ad') (ls (ss.set i.toNat x)).length c') ∧ LV w' (fun k => (P k ∨ P2 k) ∨ w.heap.size ≤ k) ad' c' (ls (ss.set i.toNat x)) ∧ Below w.heap.size w w' := by
  refine (purlieuref13_With.calls P (some ad) c (ls ss) i _ _ _ P2 A c2 _ _ _ w h hr (rwith ss hl i h0 h1 x)).mono ?_
  rintro e w' ⟨v, rfl, hN, hb⟩
  have hV : Kd.V k28 28 w' 0 (fun k => (P k ∨ P2 k) ∨ w.heap.size ≤ k) v (ls (ss.set i.toNat x)) := Kd.N_V hN
  obtain ⟨A', c', rfl⟩ := Kd.V_slice hV
  cases A' with
  | some ad' => exact ⟨ad', c', rfl, hV, hb⟩
  | none =>
    have h5 := ls_len (ss.set i.toNat x)
    rw [List.length_set] at h5
    obtain ⟨ad', _, he, _⟩ := Kd.C_get (Kd.V_reads' hV).2.2 z28 0 (Int.le_refl 0) (by omega)
    cases he
end Go.Proofs.Ytilfalpfanaanaa.PA

namespace Go.Proofs.Ytilfalpfanaanaa.PA
open Go.RowKit Go.Proofs.YtilfalpfanaanaaW.PrintWords Go.Proofs.YtilfalpfanaanaaW.PrintLast Go.Proofs.YtilfalpfanaanaaW.PrintMore Go.Proofs.Ytilfalpfanaanaa.Sx
set_option maxHeartbeats 8000000 in
set_option maxRecDepth 100000 in
theorem RLimit_no {w : World} {P : Nat → Prop} {ad : Addr} {c : Nat} {ss : List (Option Slot)} (hL : LV w P ad c (ls ss)) (hPN : ∀ k, P k → k < w.heap.size) (fd : Int) (r e : Int) (hG : purlieuref13_Get.f 40 (ls ss) fd r = some e) (he : e ≠ 0) : Calls Try.prog 45 #[.slice (some ad) ((ls ss).length) c, .int .i64 fd, .int .u32 r] w fun e' w' => e' = .returned (.tuple #[.slice (some ad) ((ls ss).length) c, .int .i64 e]) ∧ Below w.heap.size w w' := by
 have HL := Aside0.mk hL
 refine s_enter (n := 37) (L := [(0, .slice (some ad) ((ls ss).length) c), (1, .int .i64 fd), (2, .int .u32 r)]) Try.func45 rfl rfl rfl rfl ?_
 have S1 := St.start w no
 refine s_seq ?_
 refine s_region ?_
 refine qv (v := .slice none 0 0) (r_assign rfl) ?_
 refine qv (v := .int .i64 0) (r_assign rfl) ?_
 refine q_nil ?_
 refine x_seq ?_
 refine s_seq ?_
 refine s_seq ?_
 refine s_region ?_
 refine qv (v := .slice (some ad) ((ls ss).length) c) (r_move rfl) ?_
 refine qv (v := .int .i64 fd) (r_move rfl) ?_
 refine qv (v := .int .u32 r) (r_move rfl) ?_
 refine qo ?_
 refine e_call (args := [.slice (some ad) ((ls ss).length) c, .int .i64 fd, .int .u32 r]) Try.func20 (by kernel_rfl) rfl rfl ?_
 refine (purlieuref13_Get.calls 40 (some ad) c (ls ss) fd r e _ (LV_C HL.out).1 (LV_C HL.out).2 hG).mono ?_
 rintro e w2 ⟨rfl, hd⟩
 refine ⟨_, rfl, ?_⟩
 have B3 := (Drawn0.below hd)
 have S4 := S1.call B3
 replace HL := vb HL B3
 refine qv (v := .int .i64 e) (r_assign rfl) ?_
 refine q_nil ?_
 refine x_seq ?_
 refine s_seq ?_
 refine s_region ?_
 refine qv (v := .int .i64 e) (r_move rfl) ?_
 refine qv (v := .bool true) (r_neq rfl rfl (bne_t (he))) ?_
 refine q_nil ?_
 refine x_seq ?_
 refine s_true rfl ?_
 refine s_seq ?_
 refine s_region ?_
 refine qv (v := .slice (some ad) ((ls ss).length) c) (r_move rfl) ?_
 refine qv (v := .int .i64 e) (r_move rfl) ?_
 refine qv (v := .slice (some ad) ((ls ss).length) c) (r_assign rfl) ?_
 refine qv (v := .int .i64 e) (r_assign rfl) ?_
 refine q_nil ?_
 refine x_seq ?_
 refine s_ret ?_
 refine x_seq_ret ?_
 refine t_ret2 (v := .slice (some ad) ((ls ss).length) c) (v' := .int .i64 e) rfl rfl rfl ?_
 exact ⟨rfl, S4.ext.below⟩
set_option maxHeartbeats 8000000 in
set_option maxRecDepth 100000 in
theorem RLimit_tt {w : World} {P : Nat → Prop} {ad : Addr} {c : Nat} {ss : List (Option Slot)} (hL : LV w P ad c (ls ss)) (hPN : ∀ k, P k → k < w.heap.size) (fd : Int) (hl : ss.length ≤ 64) (h0 : 0 ≤ fd) {s : Slot} (hs : ss[fd.toNat]? = some (some s)) (r : Int) (hr0 : 0 ≤ r) (hG : purlieuref13_Get.f 40 (ls ss) fd r = some 0) (h28 : ¬ Go.bits .and .u32 r 268435456 = 0) (h9 : ¬ Go.bits .and .u32 r 512 = 0) : Calls Try.prog 45 #[.slice (some ad) ((ls ss).length) c, .int .i64 fd, .int .u32 r] w fun e' w' => ∃ ad' c', e' = .returned (.tuple #[.slice (some ad') (ls (ss.set fd.toNat (some ⟨s.f0, r, s.f2, s.f3⟩))).length c', .int .i64 0]) ∧ LV w' (fun k => (P k ∨ w.heap.size ≤ k)) ad' c' (ls (ss.set fd.toNat (some ⟨s.f0, r, s.f2, s.f3⟩))) ∧ Below w.heap.size w w' := by
 have hlt := get_lt hs
 have hll := ls_len ss
 obtain ⟨ob, hob⟩ := LV_ob hL (by omega)
 obtain ⟨A3, c3, hcell, h3, hF⟩ := LV_at hL h0 hs
 have HR := Aside0.mk (show Kd.V (Kd.int .i64) 3 w 0 P (.slice A3 s.f2.f1.length c3) s.f2.f1 from Kd.V_mk h3 hF)
 have S0 := St.add (St.start w no) hob (fun x hx => by cases hx)
 have HL := Aside0.mk hL
 refine s_enter (n := 37) (L := [(0, .slice (some ad) ((ls ss).length) c), (1, .int .i64 fd), (2, .int .u32 r)]) Try.func45 rfl rfl rfl rfl ?_
 refine s_seq ?_
 refine s_region ?_
 refine qv (v := .slice none 0 0) (r_assign rfl) ?_
 refine qv (v := .int .i64 0) (r_assign rfl) ?_
 refine q_nil ?_
 refine x_seq ?_
 refine s_seq ?_
 refine s_seq ?_
 refine s_region ?_
 refine qv (v := .slice (some ad) ((ls ss).length) c) (r_move rfl) ?_
 refine qv (v := .int .i64 fd) (r_move rfl) ?_
 refine qv (v := .int .u32 r) (r_move rfl) ?_
 refine qo ?_
 refine e_call (args := [.slice (some ad) ((ls ss).length) c, .int .i64 fd, .int .u32 r]) Try.func20 (by kernel_rfl) rfl rfl ?_
 refine (purlieuref13_Get.calls 40 (some ad) c (ls ss) fd r 0 _ (LV_C HL.out).1 (LV_C HL.out).2 hG).mono ?_
 rintro e w1 ⟨rfl, hd⟩
 refine ⟨_, rfl, ?_⟩
 have B2 := (Drawn0.below hd)
 have S3 := S0.call B2
 replace HR := vb HR B2
 replace HL := vb HL B2
 refine qv (v := .int .i64 0) (r_assign rfl) ?_
 refine q_nil ?_
 refine x_seq ?_
 refine s_seq ?_
 refine s_region ?_
 refine qv (v := .int .i64 0) (r_move rfl) ?_
 refine qv (v := .bool false) (r_neq rfl rfl (bne_f (by omega))) ?_
 refine q_nil ?_
 refine x_seq ?_
 refine s_false rfl ?_
 refine s_skip ?_
 refine x_seq ?_
 refine s_seq ?_
 refine s_region ?_
 refine qv (v := .slice (some ad) ((ls ss).length) c) (r_move rfl) ?_
 refine qv (v := .int .i64 fd) (r_move rfl) ?_
 refine qv (v := .pointer (some (ad.add (fd.toNat * 5)))) (r_indexA elm_47 rfl rfl (by omega) (by omega) rfl) ?_
 refine qv (v := .agg #[.int .i64 s.f0, .int .u32 s.f1, .bool s.f2.f0, .slice A3 s.f2.f1.length c3, .int .i64 s.f3]) (r_loadNA sz_28 rfl rfl (cells_raw (vs := [.int .i64 s.f0, .int .u32 s.f1, .bool s.f2.f0, .slice A3 s.f2.f1.length c3, .int .i64 s.f3]) rfl hob (S3.blk 0 rfl) hcell)) ?_
 refine qo ?_
 refine e_alloc S3 zro_28 ?_
 intro g4 w5 hg4 S6 B7
 replace HR := vb HR B7
 replace HL := vb HL B7
 refine qo ?_
 refine e_store (vs := [.int .i64 s.f0, .int .u32 s.f1, .bool s.f2.f0, .slice A3 s.f2.f1.length c3, .int .i64 s.f3]) (cs' := [.int .i64 s.f0, .int .u32 s.f1, .bool s.f2.f0, .slice A3 s.f2.f1.length c3, .int .i64 s.f3]) S6 rfl rfl rfl rfl sz_28 0 rfl (.inl rfl) rfl rfl rfl ?_
 intro w8 S9 E10
 replace HR := Aside0.mk (Kd.V_step HR.out (fun k_ hk_ hl_ => E10.block k_ hl_ (fun e_ => by have o_ := S6.own _ (List.mem_of_getElem? (i := 0) rfl) rfl; try dsimp only at o_ e_; have b_ := hPN k_ hk_; omega)))
 replace HL := Aside0.mk (Kd.V_step HL.out (fun k_ hk_ hl_ => E10.block k_ hl_ (fun e_ => by have o_ := S6.own _ (List.mem_of_getElem? (i := 0) rfl) rfl; try dsimp only at o_ e_; have b_ := hPN k_ hk_; omega)))
 refine q_nil ?_
 refine x_seq ?_
 refine s_seq ?_
 refine s_region ?_
 refine qv (v := .int .u32 r) (r_move rfl) ?_
 refine qv (v := .pointer (some ⟨g4, 1, none⟩)) (r_field fld_28_1 rfl rfl) ?_
 refine qo ?_
 refine e_store (vs := [.int .u32 r]) (cs' := [.int .i64 s.f0, .int .u32 r, .bool s.f2.f0, .slice A3 s.f2.f1.length c3, .int .i64 s.f3]) S9 rfl rfl rfl rfl sz_23 0 rfl (.inl rfl) rfl rfl rfl ?_
 intro w11 S12 E13
 replace HR := Aside0.mk (Kd.V_step HR.out (fun k_ hk_ hl_ => E13.block k_ hl_ (fun e_ => by have o_ := S9.own _ (List.mem_of_getElem? (i := 0) rfl) rfl; try dsimp only at o_ e_; have b_ := hPN k_ hk_; omega)))
 replace HL := Aside0.mk (Kd.V_step HL.out (fun k_ hk_ hl_ => E13.block k_ hl_ (fun e_ => by have o_ := S9.own _ (List.mem_of_getElem? (i := 0) rfl) rfl; try dsimp only at o_ e_; have b_ := hPN k_ hk_; omega)))
 refine q_nil ?_
 refine x_seq ?_
 refine s_seq ?_
 refine s_seq ?_
 refine s_region ?_
 refine qv (v := .int .u32 r) (r_move rfl) ?_
 refine qo ?_
 refine e_call (args := [.int .u32 r, .int .i64 28]) Try.func59 (by kernel_rfl) rfl rfl ?_
 refine (purlieuref01_Has.calls r 28 true _ (by rw [has_28 r hr0, decide_eq_false h28]; rfl)).mono ?_
 rintro e w14 ⟨rfl, hd⟩
 refine ⟨_, rfl, ?_⟩
 have B15 := (Drawn0.below hd)
 have S16 := S12.call B15
 replace HR := vb HR B15
 replace HL := vb HL B15
 refine qv (v := .bool false) (r_not rfl rfl) ?_
 refine q_nil ?_
 refine x_seq ?_
 refine s_false rfl ?_
 refine s_skip ?_
 refine x_seq ?_
 refine s_seq ?_
 refine s_seq ?_
 refine s_region ?_
 refine qv (v := .int .u32 r) (r_move rfl) ?_
 refine qo ?_
 refine e_call (args := [.int .u32 r, .int .i64 9]) Try.func59 (by kernel_rfl) rfl rfl ?_
 refine (purlieuref01_Has.calls r 9 true _ (by rw [has_9 r hr0, decide_eq_false h9]; rfl)).mono ?_
 rintro e w17 ⟨rfl, hd⟩
 refine ⟨_, rfl, ?_⟩
 have B18 := (Drawn0.below hd)
 have S19 := S16.call B18
 replace HR := vb HR B18
 replace HL := vb HL B18
 refine qv (v := .bool false) (r_not rfl rfl) ?_
 refine q_nil ?_
 refine x_seq ?_
 refine s_false rfl ?_
 refine s_skip ?_
 refine x_seq ?_
 refine s_seq ?_
 refine s_region ?_
 refine qv (v := .slice (some ad) ((ls ss).length) c) (r_move rfl) ?_
 refine qv (v := .int .i64 fd) (r_move rfl) ?_
 refine qv (v := .agg #[.int .i64 s.f0, .int .u32 r, .bool s.f2.f0, .slice A3 s.f2.f1.length c3, .int .i64 s.f3]) (r_loadN (vs := [.int .i64 s.f0, .int .u32 r, .bool s.f2.f0, .slice A3 s.f2.f1.length c3, .int .i64 s.f3]) sz_28 rfl (S19.blk 0 rfl) rfl rfl) ?_
 refine qo ?_
 refine e_call (args := [.slice (some ad) ((ls ss).length) c, .int .i64 fd, .agg #[.int .i64 s.f0, .int .u32 r, .bool s.f2.f0, .slice A3 s.f2.f1.length c3, .int .i64 s.f3]]) Try.func44 (by kernel_rfl) rfl rfl ?_
 have HBw := Aside0.mk S19.ext.size
 have hV_ := HR.out
 refine (With_ls HL.out hl fd h0 (by omega) (some (⟨s.f0, r, s.f2, s.f3⟩ : Slot)) hV_).mono ?_
 rintro e w20 ⟨ad2, c2, rfl, hL2, hb⟩
 refine ⟨_, rfl, ?_⟩
 have B21 := hb
 have S22 := S19.call B21
 replace HR := vb HR B21
 replace HL := vb HL B21
 have HL2 := Aside0.mk hL2
 refine qv (v := .slice (some ad2) ((ls (ss.set fd.toNat (some (⟨s.f0, r, s.f2, s.f3⟩ : Slot)))).length) c2) (r_assign rfl) ?_
 refine qv (v := .int .i64 0) (r_assign rfl) ?_
 refine q_nil ?_
 refine x_seq ?_
 refine s_ret ?_
 refine t_ret2 (v := .slice (some ad2) ((ls (ss.set fd.toNat (some (⟨s.f0, r, s.f2, s.f3⟩ : Slot)))).length) c2) (v' := .int .i64 0) rfl rfl rfl ?_
 exact ⟨ad2, c2, rfl, Kd.V_mono HL2.out (fun k_ hk_ => by have hz_ := HBw.out; rcases hk_ with (h_ | h_) | h_ <;> first | exact .inl h_ | (right; omega)), S22.ext.below⟩
set_option maxHeartbeats 8000000 in
set_option maxRecDepth 100000 in
theorem RLimit_tf {w : World} {P : Nat → Prop} {ad : Addr} {c : Nat} {ss : List (Option Slot)} (hL : LV w P ad c (ls ss)) (hPN : ∀ k, P k → k < w.heap.size) (fd : Int) (hl : ss.length ≤ 64) (h0 : 0 ≤ fd) {s : Slot} (hs : ss[fd.toNat]? = some (some s)) (r : Int) (hr0 : 0 ≤ r) (hG : purlieuref13_Get.f 40 (ls ss) fd r = some 0) (h28 : ¬ Go.bits .and .u32 r 268435456 = 0) (h9 : Go.bits .and .u32 r 512 = 0) : Calls Try.prog 45 #[.slice (some ad) ((ls ss).length) c, .int .i64 fd, .int .u32 r] w fun e' w' => ∃ ad' c', e' = .returned (.tuple #[.slice (some ad') (ls (ss.set fd.toNat (some ⟨s.f0, r, s.f2, 0⟩))).length c', .int .i64 0]) ∧ LV w' (fun k => (P k ∨ w.heap.size ≤ k)) ad' c' (ls (ss.set fd.toNat (some ⟨s.f0, r, s.f2, 0⟩))) ∧ Below w.heap.size w w' := by
 have hlt := get_lt hs
 have hll := ls_len ss
 obtain ⟨ob, hob⟩ := LV_ob hL (by omega)
 obtain ⟨A3, c3, hcell, h3, hF⟩ := LV_at hL h0 hs
 have HR := Aside0.mk (show Kd.V (Kd.int .i64) 3 w 0 P (.slice A3 s.f2.f1.length c3) s.f2.f1 from Kd.V_mk h3 hF)
 have S0 := St.add (St.start w no) hob (fun x hx => by cases hx)
 have HL := Aside0.mk hL
 refine s_enter (n := 37) (L := [(0, .slice (some ad) ((ls ss).length) c), (1, .int .i64 fd), (2, .int .u32 r)]) Try.func45 rfl rfl rfl rfl ?_
 refine s_seq ?_
 refine s_region ?_
 refine qv (v := .slice none 0 0) (r_assign rfl) ?_
 refine qv (v := .int .i64 0) (r_assign rfl) ?_
 refine q_nil ?_
 refine x_seq ?_
 refine s_seq ?_
 refine s_seq ?_
 refine s_region ?_
 refine qv (v := .slice (some ad) ((ls ss).length) c) (r_move rfl) ?_
 refine qv (v := .int .i64 fd) (r_move rfl) ?_
 refine qv (v := .int .u32 r) (r_move rfl) ?_
 refine qo ?_
 refine e_call (args := [.slice (some ad) ((ls ss).length) c, .int .i64 fd, .int .u32 r]) Try.func20 (by kernel_rfl) rfl rfl ?_
 refine (purlieuref13_Get.calls 40 (some ad) c (ls ss) fd r 0 _ (LV_C HL.out).1 (LV_C HL.out).2 hG).mono ?_
 rintro e w1 ⟨rfl, hd⟩
 refine ⟨_, rfl, ?_⟩
 have B2 := (Drawn0.below hd)
 have S3 := S0.call B2
 replace HR := vb HR B2
 replace HL := vb HL B2
 refine qv (v := .int .i64 0) (r_assign rfl) ?_
 refine q_nil ?_
 refine x_seq ?_
 refine s_seq ?_
 refine s_region ?_
 refine qv (v := .int .i64 0) (r_move rfl) ?_
 refine qv (v := .bool false) (r_neq rfl rfl (bne_f (by omega))) ?_
 refine q_nil ?_
 refine x_seq ?_
 refine s_false rfl ?_
 refine s_skip ?_
 refine x_seq ?_
 refine s_seq ?_
 refine s_region ?_
 refine qv (v := .slice (some ad) ((ls ss).length) c) (r_move rfl) ?_
 refine qv (v := .int .i64 fd) (r_move rfl) ?_
 refine qv (v := .pointer (some (ad.add (fd.toNat * 5)))) (r_indexA elm_47 rfl rfl (by omega) (by omega) rfl) ?_
 refine qv (v := .agg #[.int .i64 s.f0, .int .u32 s.f1, .bool s.f2.f0, .slice A3 s.f2.f1.length c3, .int .i64 s.f3]) (r_loadNA sz_28 rfl rfl (cells_raw (vs := [.int .i64 s.f0, .int .u32 s.f1, .bool s.f2.f0, .slice A3 s.f2.f1.length c3, .int .i64 s.f3]) rfl hob (S3.blk 0 rfl) hcell)) ?_
 refine qo ?_
 refine e_alloc S3 zro_28 ?_
 intro g4 w5 hg4 S6 B7
 replace HR := vb HR B7
 replace HL := vb HL B7
 refine qo ?_
 refine e_store (vs := [.int .i64 s.f0, .int .u32 s.f1, .bool s.f2.f0, .slice A3 s.f2.f1.length c3, .int .i64 s.f3]) (cs' := [.int .i64 s.f0, .int .u32 s.f1, .bool s.f2.f0, .slice A3 s.f2.f1.length c3, .int .i64 s.f3]) S6 rfl rfl rfl rfl sz_28 0 rfl (.inl rfl) rfl rfl rfl ?_
 intro w8 S9 E10
 replace HR := Aside0.mk (Kd.V_step HR.out (fun k_ hk_ hl_ => E10.block k_ hl_ (fun e_ => by have o_ := S6.own _ (List.mem_of_getElem? (i := 0) rfl) rfl; try dsimp only at o_ e_; have b_ := hPN k_ hk_; omega)))
 replace HL := Aside0.mk (Kd.V_step HL.out (fun k_ hk_ hl_ => E10.block k_ hl_ (fun e_ => by have o_ := S6.own _ (List.mem_of_getElem? (i := 0) rfl) rfl; try dsimp only at o_ e_; have b_ := hPN k_ hk_; omega)))
 refine q_nil ?_
 refine x_seq ?_
 refine s_seq ?_
 refine s_region ?_
 refine qv (v := .int .u32 r) (r_move rfl) ?_
 refine qv (v := .pointer (some ⟨g4, 1, none⟩)) (r_field fld_28_1 rfl rfl) ?_
 refine qo ?_
 refine e_store (vs := [.int .u32 r]) (cs' := [.int .i64 s.f0, .int .u32 r, .bool s.f2.f0, .slice A3 s.f2.f1.length c3, .int .i64 s.f3]) S9 rfl rfl rfl rfl sz_23 0 rfl (.inl rfl) rfl rfl rfl ?_
 intro w11 S12 E13
 replace HR := Aside0.mk (Kd.V_step HR.out (fun k_ hk_ hl_ => E13.block k_ hl_ (fun e_ => by have o_ := S9.own _ (List.mem_of_getElem? (i := 0) rfl) rfl; try dsimp only at o_ e_; have b_ := hPN k_ hk_; omega)))
 replace HL := Aside0.mk (Kd.V_step HL.out (fun k_ hk_ hl_ => E13.block k_ hl_ (fun e_ => by have o_ := S9.own _ (List.mem_of_getElem? (i := 0) rfl) rfl; try dsimp only at o_ e_; have b_ := hPN k_ hk_; omega)))
 refine q_nil ?_
 refine x_seq ?_
 refine s_seq ?_
 refine s_seq ?_
 refine s_region ?_
 refine qv (v := .int .u32 r) (r_move rfl) ?_
 refine qo ?_
 refine e_call (args := [.int .u32 r, .int .i64 28]) Try.func59 (by kernel_rfl) rfl rfl ?_
 refine (purlieuref01_Has.calls r 28 true _ (by rw [has_28 r hr0, decide_eq_false h28]; rfl)).mono ?_
 rintro e w14 ⟨rfl, hd⟩
 refine ⟨_, rfl, ?_⟩
 have B15 := (Drawn0.below hd)
 have S16 := S12.call B15
 replace HR := vb HR B15
 replace HL := vb HL B15
 refine qv (v := .bool false) (r_not rfl rfl) ?_
 refine q_nil ?_
 refine x_seq ?_
 refine s_false rfl ?_
 refine s_skip ?_
 refine x_seq ?_
 refine s_seq ?_
 refine s_seq ?_
 refine s_region ?_
 refine qv (v := .int .u32 r) (r_move rfl) ?_
 refine qo ?_
 refine e_call (args := [.int .u32 r, .int .i64 9]) Try.func59 (by kernel_rfl) rfl rfl ?_
 refine (purlieuref01_Has.calls r 9 false _ (by rw [has_9 r hr0, decide_eq_true h9]; rfl)).mono ?_
 rintro e w17 ⟨rfl, hd⟩
 refine ⟨_, rfl, ?_⟩
 have B18 := (Drawn0.below hd)
 have S19 := S16.call B18
 replace HR := vb HR B18
 replace HL := vb HL B18
 refine qv (v := .bool true) (r_not rfl rfl) ?_
 refine q_nil ?_
 refine x_seq ?_
 refine s_true rfl ?_
 refine s_region ?_
 refine qv (v := .pointer (some ⟨g4, 4, none⟩)) (r_field fld_28_3 rfl rfl) ?_
 refine qo ?_
 refine e_store (vs := [.int .i64 0]) (cs' := [.int .i64 s.f0, .int .u32 r, .bool s.f2.f0, .slice A3 s.f2.f1.length c3, .int .i64 0]) S19 rfl rfl rfl rfl sz_3 0 rfl (.inl rfl) rfl rfl rfl ?_
 intro w20 S21 E22
 replace HR := Aside0.mk (Kd.V_step HR.out (fun k_ hk_ hl_ => E22.block k_ hl_ (fun e_ => by have o_ := S19.own _ (List.mem_of_getElem? (i := 0) rfl) rfl; try dsimp only at o_ e_; have b_ := hPN k_ hk_; omega)))
 replace HL := Aside0.mk (Kd.V_step HL.out (fun k_ hk_ hl_ => E22.block k_ hl_ (fun e_ => by have o_ := S19.own _ (List.mem_of_getElem? (i := 0) rfl) rfl; try dsimp only at o_ e_; have b_ := hPN k_ hk_; omega)))
 refine q_nil ?_
 refine x_seq ?_
 refine s_seq ?_
 refine s_region ?_
 refine qv (v := .slice (some ad) ((ls ss).length) c) (r_move rfl) ?_
 refine qv (v := .int .i64 fd) (r_move rfl) ?_
 refine qv (v := .agg #[.int .i64 s.f0, .int .u32 r, .bool s.f2.f0, .slice A3 s.f2.f1.length c3, .int .i64 0]) (r_loadN (vs := [.int .i64 s.f0, .int .u32 r, .bool s.f2.f0, .slice A3 s.f2.f1.length c3, .int .i64 0]) sz_28 rfl (S21.blk 0 rfl) rfl rfl) ?_
 refine qo ?_
 refine e_call (args := [.slice (some ad) ((ls ss).length) c, .int .i64 fd, .agg #[.int .i64 s.f0, .int .u32 r, .bool s.f2.f0, .slice A3 s.f2.f1.length c3, .int .i64 0]]) Try.func44 (by kernel_rfl) rfl rfl ?_
 have HBw := Aside0.mk S21.ext.size
 have hV_ := HR.out
 refine (With_ls HL.out hl fd h0 (by omega) (some (⟨s.f0, r, s.f2, 0⟩ : Slot)) hV_).mono ?_
 rintro e w23 ⟨ad2, c2, rfl, hL2, hb⟩
 refine ⟨_, rfl, ?_⟩
 have B24 := hb
 have S25 := S21.call B24
 replace HR := vb HR B24
 replace HL := vb HL B24
 have HL2 := Aside0.mk hL2
 refine qv (v := .slice (some ad2) ((ls (ss.set fd.toNat (some (⟨s.f0, r, s.f2, 0⟩ : Slot)))).length) c2) (r_assign rfl) ?_
 refine qv (v := .int .i64 0) (r_assign rfl) ?_
 refine q_nil ?_
 refine x_seq ?_
 refine s_ret ?_
 refine t_ret2 (v := .slice (some ad2) ((ls (ss.set fd.toNat (some (⟨s.f0, r, s.f2, 0⟩ : Slot)))).length) c2) (v' := .int .i64 0) rfl rfl rfl ?_
 exact ⟨ad2, c2, rfl, Kd.V_mono HL2.out (fun k_ hk_ => by have hz_ := HBw.out; rcases hk_ with (h_ | h_) | h_ <;> first | exact .inl h_ | (right; omega)), S25.ext.below⟩
set_option maxHeartbeats 8000000 in
set_option maxRecDepth 100000 in
theorem RLimit_ft {w : World} {P : Nat → Prop} {ad : Addr} {c : Nat} {ss : List (Option Slot)} (hL : LV w P ad c (ls ss)) (hPN : ∀ k, P k → k < w.heap.size) (fd : Int) (hl : ss.length ≤ 64) (h0 : 0 ≤ fd) {s : Slot} (hs : ss[fd.toNat]? = some (some s)) (r : Int) (hr0 : 0 ≤ r) (hG : purlieuref13_Get.f 40 (ls ss) fd r = some 0) (h28 : Go.bits .and .u32 r 268435456 = 0) (h9 : ¬ Go.bits .and .u32 r 512 = 0) : Calls Try.prog 45 #[.slice (some ad) ((ls ss).length) c, .int .i64 fd, .int .u32 r] w fun e' w' => ∃ ad' c', e' = .returned (.tuple #[.slice (some ad') (ls (ss.set fd.toNat (some ⟨s.f0, r, ⟨false, []⟩, s.f3⟩))).length c', .int .i64 0]) ∧ LV w' (fun k => (P k ∨ w.heap.size ≤ k)) ad' c' (ls (ss.set fd.toNat (some ⟨s.f0, r, ⟨false, []⟩, s.f3⟩))) ∧ Below w.heap.size w w' := by
 have hlt := get_lt hs
 have hll := ls_len ss
 obtain ⟨ob, hob⟩ := LV_ob hL (by omega)
 obtain ⟨A3, c3, hcell, h3, hF⟩ := LV_at hL h0 hs
 have HR := Aside0.mk (show Kd.V (Kd.int .i64) 3 w 0 P (.slice A3 s.f2.f1.length c3) s.f2.f1 from Kd.V_mk h3 hF)
 have S0 := St.add (St.start w no) hob (fun x hx => by cases hx)
 have HL := Aside0.mk hL
 refine s_enter (n := 37) (L := [(0, .slice (some ad) ((ls ss).length) c), (1, .int .i64 fd), (2, .int .u32 r)]) Try.func45 rfl rfl rfl rfl ?_
 refine s_seq ?_
 refine s_region ?_
 refine qv (v := .slice none 0 0) (r_assign rfl) ?_
 refine qv (v := .int .i64 0) (r_assign rfl) ?_
 refine q_nil ?_
 refine x_seq ?_
 refine s_seq ?_
 refine s_seq ?_
 refine s_region ?_
 refine qv (v := .slice (some ad) ((ls ss).length) c) (r_move rfl) ?_
 refine qv (v := .int .i64 fd) (r_move rfl) ?_
 refine qv (v := .int .u32 r) (r_move rfl) ?_
 refine qo ?_
 refine e_call (args := [.slice (some ad) ((ls ss).length) c, .int .i64 fd, .int .u32 r]) Try.func20 (by kernel_rfl) rfl rfl ?_
 refine (purlieuref13_Get.calls 40 (some ad) c (ls ss) fd r 0 _ (LV_C HL.out).1 (LV_C HL.out).2 hG).mono ?_
 rintro e w1 ⟨rfl, hd⟩
 refine ⟨_, rfl, ?_⟩
 have B2 := (Drawn0.below hd)
 have S3 := S0.call B2
 replace HR := vb HR B2
 replace HL := vb HL B2
 refine qv (v := .int .i64 0) (r_assign rfl) ?_
 refine q_nil ?_
 refine x_seq ?_
 refine s_seq ?_
 refine s_region ?_
 refine qv (v := .int .i64 0) (r_move rfl) ?_
 refine qv (v := .bool false) (r_neq rfl rfl (bne_f (by omega))) ?_
 refine q_nil ?_
 refine x_seq ?_
 refine s_false rfl ?_
 refine s_skip ?_
 refine x_seq ?_
 refine s_seq ?_
 refine s_region ?_
 refine qv (v := .slice (some ad) ((ls ss).length) c) (r_move rfl) ?_
 refine qv (v := .int .i64 fd) (r_move rfl) ?_
 refine qv (v := .pointer (some (ad.add (fd.toNat * 5)))) (r_indexA elm_47 rfl rfl (by omega) (by omega) rfl) ?_
 refine qv (v := .agg #[.int .i64 s.f0, .int .u32 s.f1, .bool s.f2.f0, .slice A3 s.f2.f1.length c3, .int .i64 s.f3]) (r_loadNA sz_28 rfl rfl (cells_raw (vs := [.int .i64 s.f0, .int .u32 s.f1, .bool s.f2.f0, .slice A3 s.f2.f1.length c3, .int .i64 s.f3]) rfl hob (S3.blk 0 rfl) hcell)) ?_
 refine qo ?_
 refine e_alloc S3 zro_28 ?_
 intro g4 w5 hg4 S6 B7
 replace HR := vb HR B7
 replace HL := vb HL B7
 refine qo ?_
 refine e_store (vs := [.int .i64 s.f0, .int .u32 s.f1, .bool s.f2.f0, .slice A3 s.f2.f1.length c3, .int .i64 s.f3]) (cs' := [.int .i64 s.f0, .int .u32 s.f1, .bool s.f2.f0, .slice A3 s.f2.f1.length c3, .int .i64 s.f3]) S6 rfl rfl rfl rfl sz_28 0 rfl (.inl rfl) rfl rfl rfl ?_
 intro w8 S9 E10
 replace HR := Aside0.mk (Kd.V_step HR.out (fun k_ hk_ hl_ => E10.block k_ hl_ (fun e_ => by have o_ := S6.own _ (List.mem_of_getElem? (i := 0) rfl) rfl; try dsimp only at o_ e_; have b_ := hPN k_ hk_; omega)))
 replace HL := Aside0.mk (Kd.V_step HL.out (fun k_ hk_ hl_ => E10.block k_ hl_ (fun e_ => by have o_ := S6.own _ (List.mem_of_getElem? (i := 0) rfl) rfl; try dsimp only at o_ e_; have b_ := hPN k_ hk_; omega)))
 refine q_nil ?_
 refine x_seq ?_
 refine s_seq ?_
 refine s_region ?_
 refine qv (v := .int .u32 r) (r_move rfl) ?_
 refine qv (v := .pointer (some ⟨g4, 1, none⟩)) (r_field fld_28_1 rfl rfl) ?_
 refine qo ?_
 refine e_store (vs := [.int .u32 r]) (cs' := [.int .i64 s.f0, .int .u32 r, .bool s.f2.f0, .slice A3 s.f2.f1.length c3, .int .i64 s.f3]) S9 rfl rfl rfl rfl sz_23 0 rfl (.inl rfl) rfl rfl rfl ?_
 intro w11 S12 E13
 replace HR := Aside0.mk (Kd.V_step HR.out (fun k_ hk_ hl_ => E13.block k_ hl_ (fun e_ => by have o_ := S9.own _ (List.mem_of_getElem? (i := 0) rfl) rfl; try dsimp only at o_ e_; have b_ := hPN k_ hk_; omega)))
 replace HL := Aside0.mk (Kd.V_step HL.out (fun k_ hk_ hl_ => E13.block k_ hl_ (fun e_ => by have o_ := S9.own _ (List.mem_of_getElem? (i := 0) rfl) rfl; try dsimp only at o_ e_; have b_ := hPN k_ hk_; omega)))
 refine q_nil ?_
 refine x_seq ?_
 refine s_seq ?_
 refine s_seq ?_
 refine s_region ?_
 refine qv (v := .int .u32 r) (r_move rfl) ?_
 refine qo ?_
 refine e_call (args := [.int .u32 r, .int .i64 28]) Try.func59 (by kernel_rfl) rfl rfl ?_
 refine (purlieuref01_Has.calls r 28 false _ (by rw [has_28 r hr0, decide_eq_true h28]; rfl)).mono ?_
 rintro e w14 ⟨rfl, hd⟩
 refine ⟨_, rfl, ?_⟩
 have B15 := (Drawn0.below hd)
 have S16 := S12.call B15
 replace HR := vb HR B15
 replace HL := vb HL B15
 refine qv (v := .bool true) (r_not rfl rfl) ?_
 refine q_nil ?_
 refine x_seq ?_
 refine s_true rfl ?_
 refine s_region ?_
 refine qv (v := .agg #[.bool false, .slice none 0 0]) (r_build (ps := []) rfl (by kernel_rfl)) ?_
 refine qv (v := .pointer (some ⟨g4, 2, none⟩)) (r_field fld_28_2 rfl rfl) ?_
 refine qo ?_
 refine e_store (vs := [.bool false, .slice none 0 0]) (cs' := [.int .i64 s.f0, .int .u32 r, .bool false, .slice none 0 0, .int .i64 s.f3]) S16 rfl rfl rfl rfl sz_26 0 rfl (.inl rfl) rfl rfl rfl ?_
 intro w17 S18 E19
 replace HR := Aside0.mk (Kd.V_step HR.out (fun k_ hk_ hl_ => E19.block k_ hl_ (fun e_ => by have o_ := S16.own _ (List.mem_of_getElem? (i := 0) rfl) rfl; try dsimp only at o_ e_; have b_ := hPN k_ hk_; omega)))
 replace HL := Aside0.mk (Kd.V_step HL.out (fun k_ hk_ hl_ => E19.block k_ hl_ (fun e_ => by have o_ := S16.own _ (List.mem_of_getElem? (i := 0) rfl) rfl; try dsimp only at o_ e_; have b_ := hPN k_ hk_; omega)))
 refine q_nil ?_
 refine x_seq ?_
 refine s_seq ?_
 refine s_seq ?_
 refine s_region ?_
 refine qv (v := .int .u32 r) (r_move rfl) ?_
 refine qo ?_
 refine e_call (args := [.int .u32 r, .int .i64 9]) Try.func59 (by kernel_rfl) rfl rfl ?_
 refine (purlieuref01_Has.calls r 9 true _ (by rw [has_9 r hr0, decide_eq_false h9]; rfl)).mono ?_
 rintro e w20 ⟨rfl, hd⟩
 refine ⟨_, rfl, ?_⟩
 have B21 := (Drawn0.below hd)
 have S22 := S18.call B21
 replace HR := vb HR B21
 replace HL := vb HL B21
 refine qv (v := .bool false) (r_not rfl rfl) ?_
 refine q_nil ?_
 refine x_seq ?_
 refine s_false rfl ?_
 refine s_skip ?_
 refine x_seq ?_
 refine s_seq ?_
 refine s_region ?_
 refine qv (v := .slice (some ad) ((ls ss).length) c) (r_move rfl) ?_
 refine qv (v := .int .i64 fd) (r_move rfl) ?_
 refine qv (v := .agg #[.int .i64 s.f0, .int .u32 r, .bool false, .slice none 0 0, .int .i64 s.f3]) (r_loadN (vs := [.int .i64 s.f0, .int .u32 r, .bool false, .slice none 0 0, .int .i64 s.f3]) sz_28 rfl (S22.blk 0 rfl) rfl rfl) ?_
 refine qo ?_
 refine e_call (args := [.slice (some ad) ((ls ss).length) c, .int .i64 fd, .agg #[.int .i64 s.f0, .int .u32 r, .bool false, .slice none 0 0, .int .i64 s.f3]]) Try.func44 (by kernel_rfl) rfl rfl ?_
 have HBw := Aside0.mk S22.ext.size
 have hV_ := Kd.V_nil (Kd.int .i64) 3 w20 0 P
 refine (With_ls HL.out hl fd h0 (by omega) (some (⟨s.f0, r, ⟨false, []⟩, s.f3⟩ : Slot)) hV_).mono ?_
 rintro e w23 ⟨ad2, c2, rfl, hL2, hb⟩
 refine ⟨_, rfl, ?_⟩
 have B24 := hb
 have S25 := S22.call B24
 replace HR := vb HR B24
 replace HL := vb HL B24
 have HL2 := Aside0.mk hL2
 refine qv (v := .slice (some ad2) ((ls (ss.set fd.toNat (some (⟨s.f0, r, ⟨false, []⟩, s.f3⟩ : Slot)))).length) c2) (r_assign rfl) ?_
 refine qv (v := .int .i64 0) (r_assign rfl) ?_
 refine q_nil ?_
 refine x_seq ?_
 refine s_ret ?_
 refine t_ret2 (v := .slice (some ad2) ((ls (ss.set fd.toNat (some (⟨s.f0, r, ⟨false, []⟩, s.f3⟩ : Slot)))).length) c2) (v' := .int .i64 0) rfl rfl rfl ?_
 exact ⟨ad2, c2, rfl, Kd.V_mono HL2.out (fun k_ hk_ => by have hz_ := HBw.out; rcases hk_ with (h_ | h_) | h_ <;> first | exact .inl h_ | (right; omega)), S25.ext.below⟩
set_option maxHeartbeats 8000000 in
set_option maxRecDepth 100000 in
theorem RLimit_ff {w : World} {P : Nat → Prop} {ad : Addr} {c : Nat} {ss : List (Option Slot)} (hL : LV w P ad c (ls ss)) (hPN : ∀ k, P k → k < w.heap.size) (fd : Int) (hl : ss.length ≤ 64) (h0 : 0 ≤ fd) {s : Slot} (hs : ss[fd.toNat]? = some (some s)) (r : Int) (hr0 : 0 ≤ r) (hG : purlieuref13_Get.f 40 (ls ss) fd r = some 0) (h28 : Go.bits .and .u32 r 268435456 = 0) (h9 : Go.bits .and .u32 r 512 = 0) : Calls Try.prog 45 #[.slice (some ad) ((ls ss).length) c, .int .i64 fd, .int .u32 r] w fun e' w' => ∃ ad' c', e' = .returned (.tuple #[.slice (some ad') (ls (ss.set fd.toNat (some ⟨s.f0, r, ⟨false, []⟩, 0⟩))).length c', .int .i64 0]) ∧ LV w' (fun k => (P k ∨ w.heap.size ≤ k)) ad' c' (ls (ss.set fd.toNat (some ⟨s.f0, r, ⟨false, []⟩, 0⟩))) ∧ Below w.heap.size w w' := by
 have hlt := get_lt hs
 have hll := ls_len ss
 obtain ⟨ob, hob⟩ := LV_ob hL (by omega)
 obtain ⟨A3, c3, hcell, h3, hF⟩ := LV_at hL h0 hs
 have HR := Aside0.mk (show Kd.V (Kd.int .i64) 3 w 0 P (.slice A3 s.f2.f1.length c3) s.f2.f1 from Kd.V_mk h3 hF)
 have S0 := St.add (St.start w no) hob (fun x hx => by cases hx)
 have HL := Aside0.mk hL
 refine s_enter (n := 37) (L := [(0, .slice (some ad) ((ls ss).length) c), (1, .int .i64 fd), (2, .int .u32 r)]) Try.func45 rfl rfl rfl rfl ?_
 refine s_seq ?_
 refine s_region ?_
 refine qv (v := .slice none 0 0) (r_assign rfl) ?_
 refine qv (v := .int .i64 0) (r_assign rfl) ?_
 refine q_nil ?_
 refine x_seq ?_
 refine s_seq ?_
 refine s_seq ?_
 refine s_region ?_
 refine qv (v := .slice (some ad) ((ls ss).length) c) (r_move rfl) ?_
 refine qv (v := .int .i64 fd) (r_move rfl) ?_
 refine qv (v := .int .u32 r) (r_move rfl) ?_
 refine qo ?_
 refine e_call (args := [.slice (some ad) ((ls ss).length) c, .int .i64 fd, .int .u32 r]) Try.func20 (by kernel_rfl) rfl rfl ?_
 refine (purlieuref13_Get.calls 40 (some ad) c (ls ss) fd r 0 _ (LV_C HL.out).1 (LV_C HL.out).2 hG).mono ?_
 rintro e w1 ⟨rfl, hd⟩
 refine ⟨_, rfl, ?_⟩
 have B2 := (Drawn0.below hd)
 have S3 := S0.call B2
 replace HR := vb HR B2
 replace HL := vb HL B2
 refine qv (v := .int .i64 0) (r_assign rfl) ?_
 refine q_nil ?_
 refine x_seq ?_
 refine s_seq ?_
 refine s_region ?_
 refine qv (v := .int .i64 0) (r_move rfl) ?_
 refine qv (v := .bool false) (r_neq rfl rfl (bne_f (by omega))) ?_
 refine q_nil ?_
 refine x_seq ?_
 refine s_false rfl ?_
 refine s_skip ?_
 refine x_seq ?_
 refine s_seq ?_
 refine s_region ?_
 refine qv (v := .slice (some ad) ((ls ss).length) c) (r_move rfl) ?_
 refine qv (v := .int .i64 fd) (r_move rfl) ?_
 refine qv (v := .pointer (some (ad.add (fd.toNat * 5)))) (r_indexA elm_47 rfl rfl (by omega) (by omega) rfl) ?_
 refine qv (v := .agg #[.int .i64 s.f0, .int .u32 s.f1, .bool s.f2.f0, .slice A3 s.f2.f1.length c3, .int .i64 s.f3]) (r_loadNA sz_28 rfl rfl (cells_raw (vs := [.int .i64 s.f0, .int .u32 s.f1, .bool s.f2.f0, .slice A3 s.f2.f1.length c3, .int .i64 s.f3]) rfl hob (S3.blk 0 rfl) hcell)) ?_
 refine qo ?_
 refine e_alloc S3 zro_28 ?_
 intro g4 w5 hg4 S6 B7
 replace HR := vb HR B7
 replace HL := vb HL B7
 refine qo ?_
 refine e_store (vs := [.int .i64 s.f0, .int .u32 s.f1, .bool s.f2.f0, .slice A3 s.f2.f1.length c3, .int .i64 s.f3]) (cs' := [.int .i64 s.f0, .int .u32 s.f1, .bool s.f2.f0, .slice A3 s.f2.f1.length c3, .int .i64 s.f3]) S6 rfl rfl rfl rfl sz_28 0 rfl (.inl rfl) rfl rfl rfl ?_
 intro w8 S9 E10
 replace HR := Aside0.mk (Kd.V_step HR.out (fun k_ hk_ hl_ => E10.block k_ hl_ (fun e_ => by have o_ := S6.own _ (List.mem_of_getElem? (i := 0) rfl) rfl; try dsimp only at o_ e_; have b_ := hPN k_ hk_; omega)))
 replace HL := Aside0.mk (Kd.V_step HL.out (fun k_ hk_ hl_ => E10.block k_ hl_ (fun e_ => by have o_ := S6.own _ (List.mem_of_getElem? (i := 0) rfl) rfl; try dsimp only at o_ e_; have b_ := hPN k_ hk_; omega)))
 refine q_nil ?_
 refine x_seq ?_
 refine s_seq ?_
 refine s_region ?_
 refine qv (v := .int .u32 r) (r_move rfl) ?_
 refine qv (v := .pointer (some ⟨g4, 1, none⟩)) (r_field fld_28_1 rfl rfl) ?_
 refine qo ?_
 refine e_store (vs := [.int .u32 r]) (cs' := [.int .i64 s.f0, .int .u32 r, .bool s.f2.f0, .slice A3 s.f2.f1.length c3, .int .i64 s.f3]) S9 rfl rfl rfl rfl sz_23 0 rfl (.inl rfl) rfl rfl rfl ?_
 intro w11 S12 E13
 replace HR := Aside0.mk (Kd.V_step HR.out (fun k_ hk_ hl_ => E13.block k_ hl_ (fun e_ => by have o_ := S9.own _ (List.mem_of_getElem? (i := 0) rfl) rfl; try dsimp only at o_ e_; have b_ := hPN k_ hk_; omega)))
 replace HL := Aside0.mk (Kd.V_step HL.out (fun k_ hk_ hl_ => E13.block k_ hl_ (fun e_ => by have o_ := S9.own _ (List.mem_of_getElem? (i := 0) rfl) rfl; try dsimp only at o_ e_; have b_ := hPN k_ hk_; omega)))
 refine q_nil ?_
 refine x_seq ?_
 refine s_seq ?_
 refine s_seq ?_
 refine s_region ?_
 refine qv (v := .int .u32 r) (r_move rfl) ?_
 refine qo ?_
 refine e_call (args := [.int .u32 r, .int .i64 28]) Try.func59 (by kernel_rfl) rfl rfl ?_
 refine (purlieuref01_Has.calls r 28 false _ (by rw [has_28 r hr0, decide_eq_true h28]; rfl)).mono ?_
 rintro e w14 ⟨rfl, hd⟩
 refine ⟨_, rfl, ?_⟩
 have B15 := (Drawn0.below hd)
 have S16 := S12.call B15
 replace HR := vb HR B15
 replace HL := vb HL B15
 refine qv (v := .bool true) (r_not rfl rfl) ?_
 refine q_nil ?_
 refine x_seq ?_
 refine s_true rfl ?_
 refine s_region ?_
 refine qv (v := .agg #[.bool false, .slice none 0 0]) (r_build (ps := []) rfl (by kernel_rfl)) ?_
 refine qv (v := .pointer (some ⟨g4, 2, none⟩)) (r_field fld_28_2 rfl rfl) ?_
 refine qo ?_
 refine e_store (vs := [.bool false, .slice none 0 0]) (cs' := [.int .i64 s.f0, .int .u32 r, .bool false, .slice none 0 0, .int .i64 s.f3]) S16 rfl rfl rfl rfl sz_26 0 rfl (.inl rfl) rfl rfl rfl ?_
 intro w17 S18 E19
 replace HR := Aside0.mk (Kd.V_step HR.out (fun k_ hk_ hl_ => E19.block k_ hl_ (fun e_ => by have o_ := S16.own _ (List.mem_of_getElem? (i := 0) rfl) rfl; try dsimp only at o_ e_; have b_ := hPN k_ hk_; omega)))
 replace HL := Aside0.mk (Kd.V_step HL.out (fun k_ hk_ hl_ => E19.block k_ hl_ (fun e_ => by have o_ := S16.own _ (List.mem_of_getElem? (i := 0) rfl) rfl; try dsimp only at o_ e_; have b_ := hPN k_ hk_; omega)))
 refine q_nil ?_
 refine x_seq ?_
 refine s_seq ?_
 refine s_seq ?_
 refine s_region ?_
 refine qv (v := .int .u32 r) (r_move rfl) ?_
 refine qo ?_
 refine e_call (args := [.int .u32 r, .int .i64 9]) Try.func59 (by kernel_rfl) rfl rfl ?_
 refine (purlieuref01_Has.calls r 9 false _ (by rw [has_9 r hr0, decide_eq_true h9]; rfl)).mono ?_
 rintro e w20 ⟨rfl, hd⟩
 refine ⟨_, rfl, ?_⟩
 have B21 := (Drawn0.below hd)
 have S22 := S18.call B21
 replace HR := vb HR B21
 replace HL := vb HL B21
 refine qv (v := .bool true) (r_not rfl rfl) ?_
 refine q_nil ?_
 refine x_seq ?_
 refine s_true rfl ?_
 refine s_region ?_
 refine qv (v := .pointer (some ⟨g4, 4, none⟩)) (r_field fld_28_3 rfl rfl) ?_
 refine qo ?_
 refine e_store (vs := [.int .i64 0]) (cs' := [.int .i64 s.f0, .int .u32 r, .bool false, .slice none 0 0, .int .i64 0]) S22 rfl rfl rfl rfl sz_3 0 rfl (.inl rfl) rfl rfl rfl ?_
 intro w23 S24 E25
 replace HR := Aside0.mk (Kd.V_step HR.out (fun k_ hk_ hl_ => E25.block k_ hl_ (fun e_ => by have o_ := S22.own _ (List.mem_of_getElem? (i := 0) rfl) rfl; try dsimp only at o_ e_; have b_ := hPN k_ hk_; omega)))
 replace HL := Aside0.mk (Kd.V_step HL.out (fun k_ hk_ hl_ => E25.block k_ hl_ (fun e_ => by have o_ := S22.own _ (List.mem_of_getElem? (i := 0) rfl) rfl; try dsimp only at o_ e_; have b_ := hPN k_ hk_; omega)))
 refine q_nil ?_
 refine x_seq ?_
 refine s_seq ?_
 refine s_region ?_
 refine qv (v := .slice (some ad) ((ls ss).length) c) (r_move rfl) ?_
 refine qv (v := .int .i64 fd) (r_move rfl) ?_
 refine qv (v := .agg #[.int .i64 s.f0, .int .u32 r, .bool false, .slice none 0 0, .int .i64 0]) (r_loadN (vs := [.int .i64 s.f0, .int .u32 r, .bool false, .slice none 0 0, .int .i64 0]) sz_28 rfl (S24.blk 0 rfl) rfl rfl) ?_
 refine qo ?_
 refine e_call (args := [.slice (some ad) ((ls ss).length) c, .int .i64 fd, .agg #[.int .i64 s.f0, .int .u32 r, .bool false, .slice none 0 0, .int .i64 0]]) Try.func44 (by kernel_rfl) rfl rfl ?_
 have HBw := Aside0.mk S24.ext.size
 have hV_ := Kd.V_nil (Kd.int .i64) 3 w23 0 P
 refine (With_ls HL.out hl fd h0 (by omega) (some (⟨s.f0, r, ⟨false, []⟩, 0⟩ : Slot)) hV_).mono ?_
 rintro e w26 ⟨ad2, c2, rfl, hL2, hb⟩
 refine ⟨_, rfl, ?_⟩
 have B27 := hb
 have S28 := S24.call B27
 replace HR := vb HR B27
 replace HL := vb HL B27
 have HL2 := Aside0.mk hL2
 refine qv (v := .slice (some ad2) ((ls (ss.set fd.toNat (some (⟨s.f0, r, ⟨false, []⟩, 0⟩ : Slot)))).length) c2) (r_assign rfl) ?_
 refine qv (v := .int .i64 0) (r_assign rfl) ?_
 refine q_nil ?_
 refine x_seq ?_
 refine s_ret ?_
 refine t_ret2 (v := .slice (some ad2) ((ls (ss.set fd.toNat (some (⟨s.f0, r, ⟨false, []⟩, 0⟩ : Slot)))).length) c2) (v' := .int .i64 0) rfl rfl rfl ?_
 exact ⟨ad2, c2, rfl, Kd.V_mono HL2.out (fun k_ hk_ => by have hz_ := HBw.out; rcases hk_ with (h_ | h_) | h_ <;> first | exact .inl h_ | (right; omega)), S28.ext.below⟩
end Go.Proofs.Ytilfalpfanaanaa.PA

namespace Go.Proofs.Ytilfalpfanaanaa.PA
open Go.RowKit Go.Proofs.YtilfalpfanaanaaW.PrintWords Go.Proofs.YtilfalpfanaanaaW.PrintLast Go.Proofs.YtilfalpfanaanaaW.PrintMore Go.Proofs.Ytilfalpfanaanaa.Sx
set_option maxHeartbeats 8000000 in
set_option maxRecDepth 100000 in
theorem RFc_no {w : World} {P : Nat → Prop} {ad : Addr} {c : Nat} {ss : List (Option Slot)} (hL : LV w P ad c (ls ss)) (hPN : ∀ k, P k → k < w.heap.size) (fd : Int) (m e : Int) (hG : purlieuref13_Get.f 40 (ls ss) fd 0 = some e) (he : e ≠ 0) : Calls Try.prog 47 #[.slice (some ad) ((ls ss).length) c, .int .i64 fd, .int .i64 m] w fun e' w' => e' = .returned (.tuple #[.slice (some ad) ((ls ss).length) c, .int .i64 e]) ∧ Below w.heap.size w w' := by
 have HL := Aside0.mk hL
 refine s_enter (n := 40) (L := [(0, .slice (some ad) ((ls ss).length) c), (1, .int .i64 fd), (2, .int .i64 m)]) Try.func47 rfl rfl rfl rfl ?_
 have S1 := St.start w no
 refine s_seq ?_
 refine s_region ?_
 refine qv (v := .slice none 0 0) (r_assign rfl) ?_
 refine qv (v := .int .i64 0) (r_assign rfl) ?_
 refine q_nil ?_
 refine x_seq ?_
 refine s_seq ?_
 refine s_seq ?_
 refine s_region ?_
 refine qv (v := .slice (some ad) ((ls ss).length) c) (r_move rfl) ?_
 refine qv (v := .int .i64 fd) (r_move rfl) ?_
 refine qo ?_
 refine e_call (args := [.slice (some ad) ((ls ss).length) c, .int .i64 fd, .int .u32 0]) Try.func20 (by kernel_rfl) rfl rfl ?_
 refine (purlieuref13_Get.calls 40 (some ad) c (ls ss) fd 0 e _ (LV_C HL.out).1 (LV_C HL.out).2 hG).mono ?_
 rintro e w2 ⟨rfl, hd⟩
 refine ⟨_, rfl, ?_⟩
 have B3 := (Drawn0.below hd)
 have S4 := S1.call B3
 replace HL := vb HL B3
 refine qv (v := .int .i64 e) (r_assign rfl) ?_
 refine q_nil ?_
 refine x_seq ?_
 refine s_seq ?_
 refine s_region ?_
 refine qv (v := .int .i64 e) (r_move rfl) ?_
 refine qv (v := .bool true) (r_neq rfl rfl (bne_t (he))) ?_
 refine q_nil ?_
 refine x_seq ?_
 refine s_true rfl ?_
 refine s_seq ?_
 refine s_region ?_
 refine qv (v := .slice (some ad) ((ls ss).length) c) (r_move rfl) ?_
 refine qv (v := .int .i64 e) (r_move rfl) ?_
 refine qv (v := .slice (some ad) ((ls ss).length) c) (r_assign rfl) ?_
 refine qv (v := .int .i64 e) (r_assign rfl) ?_
 refine q_nil ?_
 refine x_seq ?_
 refine s_ret ?_
 refine x_seq_ret ?_
 refine t_ret2 (v := .slice (some ad) ((ls ss).length) c) (v' := .int .i64 e) rfl rfl rfl ?_
 exact ⟨rfl, S4.ext.below⟩
set_option maxHeartbeats 8000000 in
set_option maxRecDepth 100000 in
theorem RFc_bad {w : World} {P : Nat → Prop} {ad : Addr} {c : Nat} {ss : List (Option Slot)} (hL : LV w P ad c (ls ss)) (hPN : ∀ k, P k → k < w.heap.size) (fd : Int) (hl : ss.length ≤ 64) (h0 : 0 ≤ fd) {s : Slot} (hs : ss[fd.toNat]? = some (some s)) (m r1 r2 : Int) (hG : purlieuref13_Get.f 40 (ls ss) fd 0 = some 0) (hM : purlieuref02_Mask.f 400 s.f3 m = some (r1, r2)) (he : r2 ≠ 0) : Calls Try.prog 47 #[.slice (some ad) ((ls ss).length) c, .int .i64 fd, .int .i64 m] w fun e' w' => e' = .returned (.tuple #[.slice (some ad) ((ls ss).length) c, .int .i64 r2]) ∧ Below w.heap.size w w' := by
 have hlt := get_lt hs
 have hll := ls_len ss
 obtain ⟨ob, hob⟩ := LV_ob hL (by omega)
 obtain ⟨A3, c3, hcell, h3, hF⟩ := LV_at hL h0 hs
 have HR := Aside0.mk (show Kd.V (Kd.int .i64) 3 w 0 P (.slice A3 s.f2.f1.length c3) s.f2.f1 from Kd.V_mk h3 hF)
 have S0 := St.add (St.start w no) hob (fun x hx => by cases hx)
 have HL := Aside0.mk hL
 refine s_enter (n := 40) (L := [(0, .slice (some ad) ((ls ss).length) c), (1, .int .i64 fd), (2, .int .i64 m)]) Try.func47 rfl rfl rfl rfl ?_
 refine s_seq ?_
 refine s_region ?_
 refine qv (v := .slice none 0 0) (r_assign rfl) ?_
 refine qv (v := .int .i64 0) (r_assign rfl) ?_
 refine q_nil ?_
 refine x_seq ?_
 refine s_seq ?_
 refine s_seq ?_
 refine s_region ?_
 refine qv (v := .slice (some ad) ((ls ss).length) c) (r_move rfl) ?_
 refine qv (v := .int .i64 fd) (r_move rfl) ?_
 refine qo ?_
 refine e_call (args := [.slice (some ad) ((ls ss).length) c, .int .i64 fd, .int .u32 0]) Try.func20 (by kernel_rfl) rfl rfl ?_
 refine (purlieuref13_Get.calls 40 (some ad) c (ls ss) fd 0 0 _ (LV_C HL.out).1 (LV_C HL.out).2 hG).mono ?_
 rintro e w1 ⟨rfl, hd⟩
 refine ⟨_, rfl, ?_⟩
 have B2 := (Drawn0.below hd)
 have S3 := S0.call B2
 replace HR := vb HR B2
 replace HL := vb HL B2
 refine qv (v := .int .i64 0) (r_assign rfl) ?_
 refine q_nil ?_
 refine x_seq ?_
 refine s_seq ?_
 refine s_region ?_
 refine qv (v := .int .i64 0) (r_move rfl) ?_
 refine qv (v := .bool false) (r_neq rfl rfl (bne_f (by omega))) ?_
 refine q_nil ?_
 refine x_seq ?_
 refine s_false rfl ?_
 refine s_skip ?_
 refine x_seq ?_
 refine s_seq ?_
 refine s_region ?_
 refine qv (v := .slice (some ad) ((ls ss).length) c) (r_move rfl) ?_
 refine qv (v := .int .i64 fd) (r_move rfl) ?_
 refine qv (v := .pointer (some (ad.add (fd.toNat * 5)))) (r_indexA elm_47 rfl rfl (by omega) (by omega) rfl) ?_
 refine qv (v := .agg #[.int .i64 s.f0, .int .u32 s.f1, .bool s.f2.f0, .slice A3 s.f2.f1.length c3, .int .i64 s.f3]) (r_loadNA sz_28 rfl rfl (cells_raw (vs := [.int .i64 s.f0, .int .u32 s.f1, .bool s.f2.f0, .slice A3 s.f2.f1.length c3, .int .i64 s.f3]) rfl hob (S3.blk 0 rfl) hcell)) ?_
 refine qo ?_
 refine e_alloc S3 zro_28 ?_
 intro g4 w5 hg4 S6 B7
 replace HR := vb HR B7
 replace HL := vb HL B7
 refine qo ?_
 refine e_store (vs := [.int .i64 s.f0, .int .u32 s.f1, .bool s.f2.f0, .slice A3 s.f2.f1.length c3, .int .i64 s.f3]) (cs' := [.int .i64 s.f0, .int .u32 s.f1, .bool s.f2.f0, .slice A3 s.f2.f1.length c3, .int .i64 s.f3]) S6 rfl rfl rfl rfl sz_28 0 rfl (.inl rfl) rfl rfl rfl ?_
 intro w8 S9 E10
 replace HR := Aside0.mk (Kd.V_step HR.out (fun k_ hk_ hl_ => E10.block k_ hl_ (fun e_ => by have o_ := S6.own _ (List.mem_of_getElem? (i := 0) rfl) rfl; try dsimp only at o_ e_; have b_ := hPN k_ hk_; omega)))
 replace HL := Aside0.mk (Kd.V_step HL.out (fun k_ hk_ hl_ => E10.block k_ hl_ (fun e_ => by have o_ := S6.own _ (List.mem_of_getElem? (i := 0) rfl) rfl; try dsimp only at o_ e_; have b_ := hPN k_ hk_; omega)))
 refine q_nil ?_
 refine x_seq ?_
 refine s_seq ?_
 refine s_region ?_
 refine qv (v := .pointer (some ⟨g4, 4, none⟩)) (r_field fld_28_3 rfl rfl) ?_
 refine qv (v := .int .i64 s.f3) (r_load1 sz_3 rfl (S9.cell 0 rfl rfl)) ?_
 refine qv (v := .int .i64 m) (r_move rfl) ?_
 refine qo ?_
 refine e_call (args := [.int .i64 s.f3, .int .i64 m]) Try.func31 (by kernel_rfl) rfl rfl ?_
 refine (purlieuref02_Mask.calls 400 s.f3 m r1 r2 _ hM).mono ?_
 rintro e w11 ⟨rfl, hd⟩
 refine ⟨_, rfl, ?_⟩
 have B12 := (Drawn0.below hd)
 have S13 := S9.call B12
 replace HR := vb HR B12
 replace HL := vb HL B12
 refine qv (v := .tuple #[.int .i64 r1, .int .i64 r2]) (r_move rfl) ?_
 refine qv (v := .int .i64 r1) (r_extract rfl rfl) ?_
 refine qv (v := .int .i64 r2) (r_extract rfl rfl) ?_
 refine qv (v := .int .i64 r1) (r_assign rfl) ?_
 refine qv (v := .int .i64 r2) (r_assign rfl) ?_
 refine q_nil ?_
 refine x_seq ?_
 refine s_seq ?_
 refine s_seq ?_
 refine s_region ?_
 refine qv (v := .int .i64 r2) (r_move rfl) ?_
 refine qv (v := .bool true) (r_neq rfl rfl (bne_t (he))) ?_
 refine q_nil ?_
 refine x_seq ?_
 refine s_true rfl ?_
 refine s_seq ?_
 refine s_region ?_
 refine qv (v := .slice (some ad) ((ls ss).length) c) (r_move rfl) ?_
 refine qv (v := .int .i64 r2) (r_move rfl) ?_
 refine qv (v := .slice (some ad) ((ls ss).length) c) (r_assign rfl) ?_
 refine qv (v := .int .i64 r2) (r_assign rfl) ?_
 refine q_nil ?_
 refine x_seq ?_
 refine s_ret ?_
 refine x_seq_ret ?_
 refine t_ret2 (v := .slice (some ad) ((ls ss).length) c) (v' := .int .i64 r2) rfl rfl rfl ?_
 exact ⟨rfl, S13.ext.below⟩
set_option maxHeartbeats 8000000 in
set_option maxRecDepth 100000 in
theorem RFc_ok {w : World} {P : Nat → Prop} {ad : Addr} {c : Nat} {ss : List (Option Slot)} (hL : LV w P ad c (ls ss)) (hPN : ∀ k, P k → k < w.heap.size) (fd : Int) (hl : ss.length ≤ 64) (h0 : 0 ≤ fd) {s : Slot} (hs : ss[fd.toNat]? = some (some s)) (m r1 : Int) (hG : purlieuref13_Get.f 40 (ls ss) fd 0 = some 0) (hM : purlieuref02_Mask.f 400 s.f3 m = some (r1, 0)) : Calls Try.prog 47 #[.slice (some ad) ((ls ss).length) c, .int .i64 fd, .int .i64 m] w fun e' w' => ∃ ad' c', e' = .returned (.tuple #[.slice (some ad') (ls (ss.set fd.toNat (some ⟨s.f0, s.f1, s.f2, r1⟩))).length c', .int .i64 0]) ∧ LV w' (fun k => (P k ∨ w.heap.size ≤ k)) ad' c' (ls (ss.set fd.toNat (some ⟨s.f0, s.f1, s.f2, r1⟩))) ∧ Below w.heap.size w w' := by
 have hlt := get_lt hs
 have hll := ls_len ss
 obtain ⟨ob, hob⟩ := LV_ob hL (by omega)
 obtain ⟨A3, c3, hcell, h3, hF⟩ := LV_at hL h0 hs
 have HR := Aside0.mk (show Kd.V (Kd.int .i64) 3 w 0 P (.slice A3 s.f2.f1.length c3) s.f2.f1 from Kd.V_mk h3 hF)
 have S0 := St.add (St.start w no) hob (fun x hx => by cases hx)
 have HL := Aside0.mk hL
 refine s_enter (n := 40) (L := [(0, .slice (some ad) ((ls ss).length) c), (1, .int .i64 fd), (2, .int .i64 m)]) Try.func47 rfl rfl rfl rfl ?_
 refine s_seq ?_
 refine s_region ?_
 refine qv (v := .slice none 0 0) (r_assign rfl) ?_
 refine qv (v := .int .i64 0) (r_assign rfl) ?_
 refine q_nil ?_
 refine x_seq ?_
 refine s_seq ?_
 refine s_seq ?_
 refine s_region ?_
 refine qv (v := .slice (some ad) ((ls ss).length) c) (r_move rfl) ?_
 refine qv (v := .int .i64 fd) (r_move rfl) ?_
 refine qo ?_
 refine e_call (args := [.slice (some ad) ((ls ss).length) c, .int .i64 fd, .int .u32 0]) Try.func20 (by kernel_rfl) rfl rfl ?_
 refine (purlieuref13_Get.calls 40 (some ad) c (ls ss) fd 0 0 _ (LV_C HL.out).1 (LV_C HL.out).2 hG).mono ?_
 rintro e w1 ⟨rfl, hd⟩
 refine ⟨_, rfl, ?_⟩
 have B2 := (Drawn0.below hd)
 have S3 := S0.call B2
 replace HR := vb HR B2
 replace HL := vb HL B2
 refine qv (v := .int .i64 0) (r_assign rfl) ?_
 refine q_nil ?_
 refine x_seq ?_
 refine s_seq ?_
 refine s_region ?_
 refine qv (v := .int .i64 0) (r_move rfl) ?_
 refine qv (v := .bool false) (r_neq rfl rfl (bne_f (by omega))) ?_
 refine q_nil ?_
 refine x_seq ?_
 refine s_false rfl ?_
 refine s_skip ?_
 refine x_seq ?_
 refine s_seq ?_
 refine s_region ?_
 refine qv (v := .slice (some ad) ((ls ss).length) c) (r_move rfl) ?_
 refine qv (v := .int .i64 fd) (r_move rfl) ?_
 refine qv (v := .pointer (some (ad.add (fd.toNat * 5)))) (r_indexA elm_47 rfl rfl (by omega) (by omega) rfl) ?_
 refine qv (v := .agg #[.int .i64 s.f0, .int .u32 s.f1, .bool s.f2.f0, .slice A3 s.f2.f1.length c3, .int .i64 s.f3]) (r_loadNA sz_28 rfl rfl (cells_raw (vs := [.int .i64 s.f0, .int .u32 s.f1, .bool s.f2.f0, .slice A3 s.f2.f1.length c3, .int .i64 s.f3]) rfl hob (S3.blk 0 rfl) hcell)) ?_
 refine qo ?_
 refine e_alloc S3 zro_28 ?_
 intro g4 w5 hg4 S6 B7
 replace HR := vb HR B7
 replace HL := vb HL B7
 refine qo ?_
 refine e_store (vs := [.int .i64 s.f0, .int .u32 s.f1, .bool s.f2.f0, .slice A3 s.f2.f1.length c3, .int .i64 s.f3]) (cs' := [.int .i64 s.f0, .int .u32 s.f1, .bool s.f2.f0, .slice A3 s.f2.f1.length c3, .int .i64 s.f3]) S6 rfl rfl rfl rfl sz_28 0 rfl (.inl rfl) rfl rfl rfl ?_
 intro w8 S9 E10
 replace HR := Aside0.mk (Kd.V_step HR.out (fun k_ hk_ hl_ => E10.block k_ hl_ (fun e_ => by have o_ := S6.own _ (List.mem_of_getElem? (i := 0) rfl) rfl; try dsimp only at o_ e_; have b_ := hPN k_ hk_; omega)))
 replace HL := Aside0.mk (Kd.V_step HL.out (fun k_ hk_ hl_ => E10.block k_ hl_ (fun e_ => by have o_ := S6.own _ (List.mem_of_getElem? (i := 0) rfl) rfl; try dsimp only at o_ e_; have b_ := hPN k_ hk_; omega)))
 refine q_nil ?_
 refine x_seq ?_
 refine s_seq ?_
 refine s_region ?_
 refine qv (v := .pointer (some ⟨g4, 4, none⟩)) (r_field fld_28_3 rfl rfl) ?_
 refine qv (v := .int .i64 s.f3) (r_load1 sz_3 rfl (S9.cell 0 rfl rfl)) ?_
 refine qv (v := .int .i64 m) (r_move rfl) ?_
 refine qo ?_
 refine e_call (args := [.int .i64 s.f3, .int .i64 m]) Try.func31 (by kernel_rfl) rfl rfl ?_
 refine (purlieuref02_Mask.calls 400 s.f3 m r1 0 _ hM).mono ?_
 rintro e w11 ⟨rfl, hd⟩
 refine ⟨_, rfl, ?_⟩
 have B12 := (Drawn0.below hd)
 have S13 := S9.call B12
 replace HR := vb HR B12
 replace HL := vb HL B12
 refine qv (v := .tuple #[.int .i64 r1, .int .i64 0]) (r_move rfl) ?_
 refine qv (v := .int .i64 r1) (r_extract rfl rfl) ?_
 refine qv (v := .int .i64 0) (r_extract rfl rfl) ?_
 refine qv (v := .int .i64 r1) (r_assign rfl) ?_
 refine qv (v := .int .i64 0) (r_assign rfl) ?_
 refine q_nil ?_
 refine x_seq ?_
 refine s_seq ?_
 refine s_seq ?_
 refine s_region ?_
 refine qv (v := .int .i64 0) (r_move rfl) ?_
 refine qv (v := .bool false) (r_neq rfl rfl (bne_f (by omega))) ?_
 refine q_nil ?_
 refine x_seq ?_
 refine s_false rfl ?_
 refine s_skip ?_
 refine x_seq ?_
 refine s_seq ?_
 refine s_region ?_
 refine qv (v := .int .i64 r1) (r_move rfl) ?_
 refine qv (v := .pointer (some ⟨g4, 4, none⟩)) (r_field fld_28_3 rfl rfl) ?_
 refine qo ?_
 refine e_store (vs := [.int .i64 r1]) (cs' := [.int .i64 s.f0, .int .u32 s.f1, .bool s.f2.f0, .slice A3 s.f2.f1.length c3, .int .i64 r1]) S13 rfl rfl rfl rfl sz_3 0 rfl (.inl rfl) rfl rfl rfl ?_
 intro w14 S15 E16
 replace HR := Aside0.mk (Kd.V_step HR.out (fun k_ hk_ hl_ => E16.block k_ hl_ (fun e_ => by have o_ := S13.own _ (List.mem_of_getElem? (i := 0) rfl) rfl; try dsimp only at o_ e_; have b_ := hPN k_ hk_; omega)))
 replace HL := Aside0.mk (Kd.V_step HL.out (fun k_ hk_ hl_ => E16.block k_ hl_ (fun e_ => by have o_ := S13.own _ (List.mem_of_getElem? (i := 0) rfl) rfl; try dsimp only at o_ e_; have b_ := hPN k_ hk_; omega)))
 refine q_nil ?_
 refine x_seq ?_
 refine s_seq ?_
 refine s_region ?_
 refine qv (v := .slice (some ad) ((ls ss).length) c) (r_move rfl) ?_
 refine qv (v := .int .i64 fd) (r_move rfl) ?_
 refine qv (v := .agg #[.int .i64 s.f0, .int .u32 s.f1, .bool s.f2.f0, .slice A3 s.f2.f1.length c3, .int .i64 r1]) (r_loadN (vs := [.int .i64 s.f0, .int .u32 s.f1, .bool s.f2.f0, .slice A3 s.f2.f1.length c3, .int .i64 r1]) sz_28 rfl (S15.blk 0 rfl) rfl rfl) ?_
 refine qo ?_
 refine e_call (args := [.slice (some ad) ((ls ss).length) c, .int .i64 fd, .agg #[.int .i64 s.f0, .int .u32 s.f1, .bool s.f2.f0, .slice A3 s.f2.f1.length c3, .int .i64 r1]]) Try.func44 (by kernel_rfl) rfl rfl ?_
 have HBw := Aside0.mk S15.ext.size
 have hV_ := HR.out
 refine (With_ls HL.out hl fd h0 (by omega) (some (⟨s.f0, s.f1, s.f2, r1⟩ : Slot)) hV_).mono ?_
 rintro e w17 ⟨ad2, c2, rfl, hL2, hb⟩
 refine ⟨_, rfl, ?_⟩
 have B18 := hb
 have S19 := S15.call B18
 replace HR := vb HR B18
 replace HL := vb HL B18
 have HL2 := Aside0.mk hL2
 refine qv (v := .slice (some ad2) ((ls (ss.set fd.toNat (some (⟨s.f0, s.f1, s.f2, r1⟩ : Slot)))).length) c2) (r_assign rfl) ?_
 refine qv (v := .int .i64 0) (r_assign rfl) ?_
 refine q_nil ?_
 refine x_seq ?_
 refine s_ret ?_
 refine t_ret2 (v := .slice (some ad2) ((ls (ss.set fd.toNat (some (⟨s.f0, s.f1, s.f2, r1⟩ : Slot)))).length) c2) (v' := .int .i64 0) rfl rfl rfl ?_
 exact ⟨ad2, c2, rfl, Kd.V_mono HL2.out (fun k_ hk_ => by have hz_ := HBw.out; rcases hk_ with (h_ | h_) | h_ <;> first | exact .inl h_ | (right; omega)), S19.ext.below⟩
set_option maxHeartbeats 8000000 in
set_option maxRecDepth 100000 in
theorem RIo_no {w : World} {P : Nat → Prop} {ad : Addr} {c : Nat} {ss : List (Option Slot)} (hL : LV w P ad c (ls ss)) (hPN : ∀ k, P k → k < w.heap.size) (fd : Int) {B : Option Addr} {d : Nat} {l2 : List Int} (hB : Kd.C (Kd.int .i64) w B l2.length l2) (hd2 : l2.length ≤ d) (e : Int) (hG : purlieuref13_Get.f 40 (ls ss) fd 0 = some e) (he : e ≠ 0) : Calls Try.prog 46 #[.slice (some ad) ((ls ss).length) c, .int .i64 fd, .slice B l2.length d] w fun e' w' => e' = .returned (.tuple #[.slice (some ad) ((ls ss).length) c, .int .i64 e]) ∧ Below w.heap.size w w' := by
 have HL := Aside0.mk hL
 refine s_enter (n := 40) (L := [(0, .slice (some ad) ((ls ss).length) c), (1, .int .i64 fd), (2, .slice B l2.length d)]) Try.func46 rfl rfl rfl rfl ?_
 have S1 := St.start w no
 refine s_seq ?_
 refine s_region ?_
 refine qv (v := .slice none 0 0) (r_assign rfl) ?_
 refine qv (v := .int .i64 0) (r_assign rfl) ?_
 refine q_nil ?_
 refine x_seq ?_
 refine s_seq ?_
 refine s_seq ?_
 refine s_region ?_
 refine qv (v := .slice (some ad) ((ls ss).length) c) (r_move rfl) ?_
 refine qv (v := .int .i64 fd) (r_move rfl) ?_
 refine qo ?_
 refine e_call (args := [.slice (some ad) ((ls ss).length) c, .int .i64 fd, .int .u32 0]) Try.func20 (by kernel_rfl) rfl rfl ?_
 refine (purlieuref13_Get.calls 40 (some ad) c (ls ss) fd 0 e _ (LV_C HL.out).1 (LV_C HL.out).2 hG).mono ?_
 rintro e w2 ⟨rfl, hd⟩
 refine ⟨_, rfl, ?_⟩
 have B3 := (Drawn0.below hd)
 have S4 := S1.call B3
 replace HL := vb HL B3
 refine qv (v := .int .i64 e) (r_assign rfl) ?_
 refine q_nil ?_
 refine x_seq ?_
 refine s_seq ?_
 refine s_region ?_
 refine qv (v := .int .i64 e) (r_move rfl) ?_
 refine qv (v := .bool true) (r_neq rfl rfl (bne_t (he))) ?_
 refine q_nil ?_
 refine x_seq ?_
 refine s_true rfl ?_
 refine s_seq ?_
 refine s_region ?_
 refine qv (v := .slice (some ad) ((ls ss).length) c) (r_move rfl) ?_
 refine qv (v := .int .i64 e) (r_move rfl) ?_
 refine qv (v := .slice (some ad) ((ls ss).length) c) (r_assign rfl) ?_
 refine qv (v := .int .i64 e) (r_assign rfl) ?_
 refine q_nil ?_
 refine x_seq ?_
 refine s_ret ?_
 refine x_seq_ret ?_
 refine t_ret2 (v := .slice (some ad) ((ls ss).length) c) (v' := .int .i64 e) rfl rfl rfl ?_
 exact ⟨rfl, S4.ext.below⟩
set_option maxHeartbeats 8000000 in
set_option maxRecDepth 100000 in
theorem RIo_bad {w : World} {P : Nat → Prop} {ad : Addr} {c : Nat} {ss : List (Option Slot)} (hL : LV w P ad c (ls ss)) (hPN : ∀ k, P k → k < w.heap.size) (fd : Int) (hl : ss.length ≤ 64) (h0 : 0 ≤ fd) {s : Slot} (hs : ss[fd.toNat]? = some (some s)) {B : Option Addr} {d : Nat} {l2 : List Int} (hB : Kd.C (Kd.int .i64) w B l2.length l2) (hd2 : l2.length ≤ d) (r1 : Bool) (r2 : List Int) (r3 : Int) (hG : purlieuref13_Get.f 40 (ls ss) fd 0 = some 0) (hM : purlieuref02_Limit.f 600 s.f2.f0 s.f2.f1 l2 = some (r1, r2, r3)) (he : r3 ≠ 0) : Calls Try.prog 46 #[.slice (some ad) ((ls ss).length) c, .int .i64 fd, .slice B l2.length d] w fun e' w' => e' = .returned (.tuple #[.slice (some ad) ((ls ss).length) c, .int .i64 r3]) ∧ Below w.heap.size w w' := by
 have hlt := get_lt hs
 have hll := ls_len ss
 obtain ⟨ob, hob⟩ := LV_ob hL (by omega)
 obtain ⟨A3, c3, hcell, h3, hF⟩ := LV_at hL h0 hs
 have HR := Aside0.mk (show Kd.V (Kd.int .i64) 3 w 0 P (.slice A3 s.f2.f1.length c3) s.f2.f1 from Kd.V_mk h3 hF)
 have S0 := St.add (St.start w no) hob (fun x hx => by cases hx)
 have HL := Aside0.mk hL
 have HB := Aside0.mk hB
 refine s_enter (n := 40) (L := [(0, .slice (some ad) ((ls ss).length) c), (1, .int .i64 fd), (2, .slice B l2.length d)]) Try.func46 rfl rfl rfl rfl ?_
 refine s_seq ?_
 refine s_region ?_
 refine qv (v := .slice none 0 0) (r_assign rfl) ?_
 refine qv (v := .int .i64 0) (r_assign rfl) ?_
 refine q_nil ?_
 refine x_seq ?_
 refine s_seq ?_
 refine s_seq ?_
 refine s_region ?_
 refine qv (v := .slice (some ad) ((ls ss).length) c) (r_move rfl) ?_
 refine qv (v := .int .i64 fd) (r_move rfl) ?_
 refine qo ?_
 refine e_call (args := [.slice (some ad) ((ls ss).length) c, .int .i64 fd, .int .u32 0]) Try.func20 (by kernel_rfl) rfl rfl ?_
 refine (purlieuref13_Get.calls 40 (some ad) c (ls ss) fd 0 0 _ (LV_C HL.out).1 (LV_C HL.out).2 hG).mono ?_
 rintro e w1 ⟨rfl, hd⟩
 refine ⟨_, rfl, ?_⟩
 have B2 := (Drawn0.below hd)
 have S3 := S0.call B2
 replace HR := vb HR B2
 replace HL := vb HL B2
 refine qv (v := .int .i64 0) (r_assign rfl) ?_
 refine q_nil ?_
 refine x_seq ?_
 refine s_seq ?_
 refine s_region ?_
 refine qv (v := .int .i64 0) (r_move rfl) ?_
 refine qv (v := .bool false) (r_neq rfl rfl (bne_f (by omega))) ?_
 refine q_nil ?_
 refine x_seq ?_
 refine s_false rfl ?_
 refine s_skip ?_
 refine x_seq ?_
 refine s_seq ?_
 refine s_region ?_
 refine qv (v := .slice (some ad) ((ls ss).length) c) (r_move rfl) ?_
 refine qv (v := .int .i64 fd) (r_move rfl) ?_
 refine qv (v := .pointer (some (ad.add (fd.toNat * 5)))) (r_indexA elm_47 rfl rfl (by omega) (by omega) rfl) ?_
 refine qv (v := .agg #[.int .i64 s.f0, .int .u32 s.f1, .bool s.f2.f0, .slice A3 s.f2.f1.length c3, .int .i64 s.f3]) (r_loadNA sz_28 rfl rfl (cells_raw (vs := [.int .i64 s.f0, .int .u32 s.f1, .bool s.f2.f0, .slice A3 s.f2.f1.length c3, .int .i64 s.f3]) rfl hob (S3.blk 0 rfl) hcell)) ?_
 refine qo ?_
 refine e_alloc S3 zro_28 ?_
 intro g4 w5 hg4 S6 B7
 replace HR := vb HR B7
 replace HL := vb HL B7
 refine qo ?_
 refine e_store (vs := [.int .i64 s.f0, .int .u32 s.f1, .bool s.f2.f0, .slice A3 s.f2.f1.length c3, .int .i64 s.f3]) (cs' := [.int .i64 s.f0, .int .u32 s.f1, .bool s.f2.f0, .slice A3 s.f2.f1.length c3, .int .i64 s.f3]) S6 rfl rfl rfl rfl sz_28 0 rfl (.inl rfl) rfl rfl rfl ?_
 intro w8 S9 E10
 replace HR := Aside0.mk (Kd.V_step HR.out (fun k_ hk_ hl_ => E10.block k_ hl_ (fun e_ => by have o_ := S6.own _ (List.mem_of_getElem? (i := 0) rfl) rfl; try dsimp only at o_ e_; have b_ := hPN k_ hk_; omega)))
 replace HL := Aside0.mk (Kd.V_step HL.out (fun k_ hk_ hl_ => E10.block k_ hl_ (fun e_ => by have o_ := S6.own _ (List.mem_of_getElem? (i := 0) rfl) rfl; try dsimp only at o_ e_; have b_ := hPN k_ hk_; omega)))
 refine q_nil ?_
 refine x_seq ?_
 refine s_seq ?_
 refine s_region ?_
 refine qv (v := .pointer (some ⟨g4, 2, none⟩)) (r_field fld_28_2 rfl rfl) ?_
 refine qv (v := .agg #[.bool s.f2.f0, .slice A3 s.f2.f1.length c3]) (r_loadN (vs := [.bool s.f2.f0, .slice A3 s.f2.f1.length c3]) sz_26 rfl (S9.blk 0 rfl) rfl rfl) ?_
 refine qv (v := .slice B l2.length d) (r_move rfl) ?_
 refine qo ?_
 refine e_call (args := [.agg #[.bool s.f2.f0, .slice A3 s.f2.f1.length c3], .slice B l2.length d]) Try.func61 (by kernel_rfl) rfl rfl ?_
 refine (purlieuref02_Limit.calls 600 s.f2.f0 A3 c3 s.f2.f1 B d l2 r1 r2 r3 _ (Kd.V_reads' HR.out).2.2 (Kd.V_reads' HR.out).2.1 (Kd.C_below HB.out S9.ext.below) hd2 hM).mono ?_
 rintro e w11 ⟨v, rfl, ho, hb⟩
 obtain ⟨A4, c4, rfl⟩ := Kd.R_slice ho
 refine ⟨_, rfl, ?_⟩
 have B12 := hb
 have S13 := S9.call B12
 replace HR := vb HR B12
 replace HL := vb HL B12
 have HO := Aside0.mk ho
 clear ho
 have HBo := Aside0.mk S9.ext.size
 refine qv (v := .tuple #[.agg #[.bool r1, .slice A4 r2.length c4], .int .i64 r3]) (r_move rfl) ?_
 refine qv (v := .agg #[.bool r1, .slice A4 r2.length c4]) (r_extract rfl rfl) ?_
 refine qv (v := .int .i64 r3) (r_extract rfl rfl) ?_
 refine qo ?_
 refine e_alloc S13 zro_26 ?_
 intro g14 w15 hg14 S16 B17
 replace HO := rb HO B17
 replace HR := vb HR B17
 replace HL := vb HL B17
 refine qo ?_
 refine e_store (vs := [.bool r1, .slice A4 r2.length c4]) (cs' := [.bool r1, .slice A4 r2.length c4]) S16 rfl rfl rfl rfl sz_26 0 rfl (.inl rfl) rfl rfl rfl ?_
 intro w18 S19 E20
 replace HO := rx HO E20 (S16.blk 0 rfl)
 replace HR := Aside0.mk (Kd.V_step HR.out (fun k_ hk_ hl_ => E20.block k_ hl_ (fun e_ => by have o_ := S16.own _ (List.mem_of_getElem? (i := 0) rfl) rfl; try dsimp only at o_ e_; have b_ := hPN k_ hk_; omega)))
 replace HL := Aside0.mk (Kd.V_step HL.out (fun k_ hk_ hl_ => E20.block k_ hl_ (fun e_ => by have o_ := S16.own _ (List.mem_of_getElem? (i := 0) rfl) rfl; try dsimp only at o_ e_; have b_ := hPN k_ hk_; omega)))
 refine qv (v := .int .i64 r3) (r_assign rfl) ?_
 refine q_nil ?_
 refine x_seq ?_
 refine s_seq ?_
 refine s_seq ?_
 refine s_region ?_
 refine qv (v := .int .i64 r3) (r_move rfl) ?_
 refine qv (v := .bool true) (r_neq rfl rfl (bne_t (he))) ?_
 refine q_nil ?_
 refine x_seq ?_
 refine s_true rfl ?_
 refine s_seq ?_
 refine s_region ?_
 refine qv (v := .slice (some ad) ((ls ss).length) c) (r_move rfl) ?_
 refine qv (v := .int .i64 r3) (r_move rfl) ?_
 refine qv (v := .slice (some ad) ((ls ss).length) c) (r_assign rfl) ?_
 refine qv (v := .int .i64 r3) (r_assign rfl) ?_
 refine q_nil ?_
 refine x_seq ?_
 refine s_ret ?_
 refine x_seq_ret ?_
 refine t_ret2 (v := .slice (some ad) ((ls ss).length) c) (v' := .int .i64 r3) rfl rfl rfl ?_
 exact ⟨rfl, S19.ext.below⟩
set_option maxHeartbeats 8000000 in
set_option maxRecDepth 100000 in
theorem RIo_ok {w : World} {P : Nat → Prop} {ad : Addr} {c : Nat} {ss : List (Option Slot)} (hL : LV w P ad c (ls ss)) (hPN : ∀ k, P k → k < w.heap.size) (fd : Int) (hl : ss.length ≤ 64) (h0 : 0 ≤ fd) {s : Slot} (hs : ss[fd.toNat]? = some (some s)) {B : Option Addr} {d : Nat} {l2 : List Int} (hB : Kd.C (Kd.int .i64) w B l2.length l2) (hd2 : l2.length ≤ d) (r1 : Bool) (r2 : List Int) (hG : purlieuref13_Get.f 40 (ls ss) fd 0 = some 0) (hM : purlieuref02_Limit.f 600 s.f2.f0 s.f2.f1 l2 = some (r1, r2, 0)) : Calls Try.prog 46 #[.slice (some ad) ((ls ss).length) c, .int .i64 fd, .slice B l2.length d] w fun e' w' => ∃ ad' c', e' = .returned (.tuple #[.slice (some ad') (ls (ss.set fd.toNat (some ⟨s.f0, s.f1, ⟨r1, r2⟩, s.f3⟩))).length c', .int .i64 0]) ∧ LV w' (fun k => (P k ∨ w.heap.size ≤ k)) ad' c' (ls (ss.set fd.toNat (some ⟨s.f0, s.f1, ⟨r1, r2⟩, s.f3⟩))) ∧ Below w.heap.size w w' := by
 have hlt := get_lt hs
 have hll := ls_len ss
 obtain ⟨ob, hob⟩ := LV_ob hL (by omega)
 obtain ⟨A3, c3, hcell, h3, hF⟩ := LV_at hL h0 hs
 have HR := Aside0.mk (show Kd.V (Kd.int .i64) 3 w 0 P (.slice A3 s.f2.f1.length c3) s.f2.f1 from Kd.V_mk h3 hF)
 have S0 := St.add (St.start w no) hob (fun x hx => by cases hx)
 have HL := Aside0.mk hL
 have HB := Aside0.mk hB
 refine s_enter (n := 40) (L := [(0, .slice (some ad) ((ls ss).length) c), (1, .int .i64 fd), (2, .slice B l2.length d)]) Try.func46 rfl rfl rfl rfl ?_
 refine s_seq ?_
 refine s_region ?_
 refine qv (v := .slice none 0 0) (r_assign rfl) ?_
 refine qv (v := .int .i64 0) (r_assign rfl) ?_
 refine q_nil ?_
 refine x_seq ?_
 refine s_seq ?_
 refine s_seq ?_
 refine s_region ?_
 refine qv (v := .slice (some ad) ((ls ss).length) c) (r_move rfl) ?_
 refine qv (v := .int .i64 fd) (r_move rfl) ?_
 refine qo ?_
 refine e_call (args := [.slice (some ad) ((ls ss).length) c, .int .i64 fd, .int .u32 0]) Try.func20 (by kernel_rfl) rfl rfl ?_
 refine (purlieuref13_Get.calls 40 (some ad) c (ls ss) fd 0 0 _ (LV_C HL.out).1 (LV_C HL.out).2 hG).mono ?_
 rintro e w1 ⟨rfl, hd⟩
 refine ⟨_, rfl, ?_⟩
 have B2 := (Drawn0.below hd)
 have S3 := S0.call B2
 replace HR := vb HR B2
 replace HL := vb HL B2
 refine qv (v := .int .i64 0) (r_assign rfl) ?_
 refine q_nil ?_
 refine x_seq ?_
 refine s_seq ?_
 refine s_region ?_
 refine qv (v := .int .i64 0) (r_move rfl) ?_
 refine qv (v := .bool false) (r_neq rfl rfl (bne_f (by omega))) ?_
 refine q_nil ?_
 refine x_seq ?_
 refine s_false rfl ?_
 refine s_skip ?_
 refine x_seq ?_
 refine s_seq ?_
 refine s_region ?_
 refine qv (v := .slice (some ad) ((ls ss).length) c) (r_move rfl) ?_
 refine qv (v := .int .i64 fd) (r_move rfl) ?_
 refine qv (v := .pointer (some (ad.add (fd.toNat * 5)))) (r_indexA elm_47 rfl rfl (by omega) (by omega) rfl) ?_
 refine qv (v := .agg #[.int .i64 s.f0, .int .u32 s.f1, .bool s.f2.f0, .slice A3 s.f2.f1.length c3, .int .i64 s.f3]) (r_loadNA sz_28 rfl rfl (cells_raw (vs := [.int .i64 s.f0, .int .u32 s.f1, .bool s.f2.f0, .slice A3 s.f2.f1.length c3, .int .i64 s.f3]) rfl hob (S3.blk 0 rfl) hcell)) ?_
 refine qo ?_
 refine e_alloc S3 zro_28 ?_
 intro g4 w5 hg4 S6 B7
 replace HR := vb HR B7
 replace HL := vb HL B7
 refine qo ?_
 refine e_store (vs := [.int .i64 s.f0, .int .u32 s.f1, .bool s.f2.f0, .slice A3 s.f2.f1.length c3, .int .i64 s.f3]) (cs' := [.int .i64 s.f0, .int .u32 s.f1, .bool s.f2.f0, .slice A3 s.f2.f1.length c3, .int .i64 s.f3]) S6 rfl rfl rfl rfl sz_28 0 rfl (.inl rfl) rfl rfl rfl ?_
 intro w8 S9 E10
 replace HR := Aside0.mk (Kd.V_step HR.out (fun k_ hk_ hl_ => E10.block k_ hl_ (fun e_ => by have o_ := S6.own _ (List.mem_of_getElem? (i := 0) rfl) rfl; try dsimp only at o_ e_; have b_ := hPN k_ hk_; omega)))
 replace HL := Aside0.mk (Kd.V_step HL.out (fun k_ hk_ hl_ => E10.block k_ hl_ (fun e_ => by have o_ := S6.own _ (List.mem_of_getElem? (i := 0) rfl) rfl; try dsimp only at o_ e_; have b_ := hPN k_ hk_; omega)))
 refine q_nil ?_
 refine x_seq ?_
 refine s_seq ?_
 refine s_region ?_
 refine qv (v := .pointer (some ⟨g4, 2, none⟩)) (r_field fld_28_2 rfl rfl) ?_
 refine qv (v := .agg #[.bool s.f2.f0, .slice A3 s.f2.f1.length c3]) (r_loadN (vs := [.bool s.f2.f0, .slice A3 s.f2.f1.length c3]) sz_26 rfl (S9.blk 0 rfl) rfl rfl) ?_
 refine qv (v := .slice B l2.length d) (r_move rfl) ?_
 refine qo ?_
 refine e_call (args := [.agg #[.bool s.f2.f0, .slice A3 s.f2.f1.length c3], .slice B l2.length d]) Try.func61 (by kernel_rfl) rfl rfl ?_
 refine (purlieuref02_Limit.calls 600 s.f2.f0 A3 c3 s.f2.f1 B d l2 r1 r2 0 _ (Kd.V_reads' HR.out).2.2 (Kd.V_reads' HR.out).2.1 (Kd.C_below HB.out S9.ext.below) hd2 hM).mono ?_
 rintro e w11 ⟨v, rfl, ho, hb⟩
 obtain ⟨A4, c4, rfl⟩ := Kd.R_slice ho
 refine ⟨_, rfl, ?_⟩
 have B12 := hb
 have S13 := S9.call B12
 replace HR := vb HR B12
 replace HL := vb HL B12
 have HO := Aside0.mk ho
 clear ho
 have HBo := Aside0.mk S9.ext.size
 refine qv (v := .tuple #[.agg #[.bool r1, .slice A4 r2.length c4], .int .i64 0]) (r_move rfl) ?_
 refine qv (v := .agg #[.bool r1, .slice A4 r2.length c4]) (r_extract rfl rfl) ?_
 refine qv (v := .int .i64 0) (r_extract rfl rfl) ?_
 refine qo ?_
 refine e_alloc S13 zro_26 ?_
 intro g14 w15 hg14 S16 B17
 replace HO := rb HO B17
 replace HR := vb HR B17
 replace HL := vb HL B17
 refine qo ?_
 refine e_store (vs := [.bool r1, .slice A4 r2.length c4]) (cs' := [.bool r1, .slice A4 r2.length c4]) S16 rfl rfl rfl rfl sz_26 0 rfl (.inl rfl) rfl rfl rfl ?_
 intro w18 S19 E20
 replace HO := rx HO E20 (S16.blk 0 rfl)
 replace HR := Aside0.mk (Kd.V_step HR.out (fun k_ hk_ hl_ => E20.block k_ hl_ (fun e_ => by have o_ := S16.own _ (List.mem_of_getElem? (i := 0) rfl) rfl; try dsimp only at o_ e_; have b_ := hPN k_ hk_; omega)))
 replace HL := Aside0.mk (Kd.V_step HL.out (fun k_ hk_ hl_ => E20.block k_ hl_ (fun e_ => by have o_ := S16.own _ (List.mem_of_getElem? (i := 0) rfl) rfl; try dsimp only at o_ e_; have b_ := hPN k_ hk_; omega)))
 refine qv (v := .int .i64 0) (r_assign rfl) ?_
 refine q_nil ?_
 refine x_seq ?_
 refine s_seq ?_
 refine s_seq ?_
 refine s_region ?_
 refine qv (v := .int .i64 0) (r_move rfl) ?_
 refine qv (v := .bool false) (r_neq rfl rfl (bne_f (by omega))) ?_
 refine q_nil ?_
 refine x_seq ?_
 refine s_false rfl ?_
 refine s_skip ?_
 refine x_seq ?_
 refine s_seq ?_
 refine s_region ?_
 refine qv (v := .agg #[.bool r1, .slice A4 r2.length c4]) (r_loadN (vs := [.bool r1, .slice A4 r2.length c4]) sz_26 rfl (S19.blk 0 rfl) rfl rfl) ?_
 refine qv (v := .pointer (some ⟨g4, 2, none⟩)) (r_field fld_28_2 rfl rfl) ?_
 refine qo ?_
 refine e_store (vs := [.bool r1, .slice A4 r2.length c4]) (cs' := [.int .i64 s.f0, .int .u32 s.f1, .bool r1, .slice A4 r2.length c4, .int .i64 s.f3]) S19 rfl rfl rfl rfl sz_26 1 rfl (.inl rfl) rfl rfl rfl ?_
 intro w21 S22 E23
 replace HO := rx HO E23 (S19.blk 1 rfl)
 replace HR := Aside0.mk (Kd.V_step HR.out (fun k_ hk_ hl_ => E23.block k_ hl_ (fun e_ => by have o_ := S19.own _ (List.mem_of_getElem? (i := 1) rfl) rfl; try dsimp only at o_ e_; have b_ := hPN k_ hk_; omega)))
 replace HL := Aside0.mk (Kd.V_step HL.out (fun k_ hk_ hl_ => E23.block k_ hl_ (fun e_ => by have o_ := S19.own _ (List.mem_of_getElem? (i := 1) rfl) rfl; try dsimp only at o_ e_; have b_ := hPN k_ hk_; omega)))
 refine q_nil ?_
 refine x_seq ?_
 refine s_seq ?_
 refine s_region ?_
 refine qv (v := .slice (some ad) ((ls ss).length) c) (r_move rfl) ?_
 refine qv (v := .int .i64 fd) (r_move rfl) ?_
 refine qv (v := .agg #[.int .i64 s.f0, .int .u32 s.f1, .bool r1, .slice A4 r2.length c4, .int .i64 s.f3]) (r_loadN (vs := [.int .i64 s.f0, .int .u32 s.f1, .bool r1, .slice A4 r2.length c4, .int .i64 s.f3]) sz_28 rfl (S22.blk 1 rfl) rfl rfl) ?_
 refine qo ?_
 refine e_call (args := [.slice (some ad) ((ls ss).length) c, .int .i64 fd, .agg #[.int .i64 s.f0, .int .u32 s.f1, .bool r1, .slice A4 r2.length c4, .int .i64 s.f3]]) Try.func44 (by kernel_rfl) rfl rfl ?_
 have HBw := Aside0.mk S22.ext.size
 have hV_ := Kd.R_V (base' := 0) (Kd.R_bound HO.out)
 refine (With_ls HL.out hl fd h0 (by omega) (some (⟨s.f0, s.f1, ⟨r1, r2⟩, s.f3⟩ : Slot)) hV_).mono ?_
 rintro e w24 ⟨ad2, c2, rfl, hL2, hb⟩
 refine ⟨_, rfl, ?_⟩
 have B25 := hb
 have S26 := S22.call B25
 replace HO := rb HO B25
 replace HR := vb HR B25
 replace HL := vb HL B25
 have HL2 := Aside0.mk hL2
 refine qv (v := .slice (some ad2) ((ls (ss.set fd.toNat (some (⟨s.f0, s.f1, ⟨r1, r2⟩, s.f3⟩ : Slot)))).length) c2) (r_assign rfl) ?_
 refine qv (v := .int .i64 0) (r_assign rfl) ?_
 refine q_nil ?_
 refine x_seq ?_
 refine s_ret ?_
 refine t_ret2 (v := .slice (some ad2) ((ls (ss.set fd.toNat (some (⟨s.f0, s.f1, ⟨r1, r2⟩, s.f3⟩ : Slot)))).length) c2) (v' := .int .i64 0) rfl rfl rfl ?_
 exact ⟨ad2, c2, rfl, Kd.V_mono HL2.out (fun k_ hk_ => by have hz_ := HBw.out; have hy_ := HBo.out; rcases hk_ with (h_ | ⟨_, h_, _⟩) | h_ <;> first | exact .inl h_ | (right; omega)), S26.ext.below⟩
end Go.Proofs.Ytilfalpfanaanaa.PA

namespace Go.Proofs.Ytilfalpfanaanaa.PA
open Go.RowKit Go.Proofs.YtilfalpfanaanaaW.PrintWords Go.Proofs.YtilfalpfanaanaaW.PrintLast Go.Proofs.YtilfalpfanaanaaW.PrintMore Go.Proofs.Ytilfalpfanaanaa.Sx
set_option maxHeartbeats 8000000 in
set_option maxRecDepth 100000 in
theorem own_calls (kd fd s0 s1 : Int) (b0 : Bool) (A5 : Option Addr) (c5 : Nat) (l5 : List Int) (s3 : Int) (A7 : Option Addr) (c7 : Nat) (l7 : List Int) (w : World) (hr5 : Kd.C (Kd.int .i64) w A5 l5.length l5) (hc5 : l5.length ≤ c5) (hr7 : Kd.C (Kd.int .i64) w A7 l7.length l7) (hc7 : l7.length ≤ c7) :
  Calls Try.prog 13 #[.agg #[.int .i64 kd, .int .i64 fd, .int .i64 s0, .int .u32 s1, .bool b0, .slice A5 l5.length c5, .int .i64 s3, .slice A7 l7.length c7]] w fun e w' => ∃ v5 v7, e = .returned (.agg #[.int .i64 kd, .int .i64 fd, .int .i64 s0, .int .u32 s1, .bool b0, v5, .int .i64 s3, v7]) ∧ Kd.R (Kd.int .i64) 3 w' w.heap.size (fun _ => True) v5 (cut50 l5) ∧ Kd.R (Kd.int .i64) 3 w' w.heap.size (fun _ => True) v7 (cut50 l7) ∧ Below w.heap.size w w' := by
 have HC5 := Aside0.mk hr5
 have HC7 := Aside0.mk hr7
 clear hr5 hr7
 refine s_enter (n := 37) (L := [(0, .agg #[.int .i64 kd, .int .i64 fd, .int .i64 s0, .int .u32 s1, .bool b0, .slice A5 l5.length c5, .int .i64 s3, .slice A7 l7.length c7])]) Try.func13 rfl rfl rfl rfl ?_
 have S1 := St.start w no
 refine s_seq ?_
 refine s_region ?_
 refine qo ?_
 refine e_box (cs := [.int .i64 kd, .int .i64 fd, .int .i64 s0, .int .u32 s1, .bool b0, .slice A5 l5.length c5, .int .i64 s3, .slice A7 l7.length c7]) S1 rfl rfl ?_
 intro g2 w3 hg2 S4 B5
 refine qo ?_
 refine e_alloc S4 zro_30 ?_
 intro g6 w7 hg6 S8 B9
 refine q_nil ?_
 refine x_seq ?_
 refine s_seq ?_
 refine s_cut .normal (fun L_ W_ => ∃ (U : List (Nat × Value)) (m7 : List Int), L_ = (1, .pointer (some ⟨g2, 0, none⟩)) :: (2, .pointer (some ⟨g6, 0, none⟩)) :: U ∧ St w no W_ [⟨g6, true, .cells #[.int .i64 0, .int .i64 0, .int .i64 0, .int .u32 0, .bool false, .slice none 0 0, .int .i64 0, .slice none 0 0] 30 (0, 0)⟩, ⟨g2, true, .cells #[.int .i64 kd, .int .i64 fd, .int .i64 s0, .int .u32 s1, .bool b0, .slice A5 l5.length c5, .int .i64 s3, .slice A7 m7.length c7] 30 (0, 0)⟩] ∧ m7 = cut50 l7 ∧ Kd.C (Kd.int .i64) w A7 m7.length m7 ∧ m7.length ≤ c7 ∧ m7.length ≤ 50) ?_ ?_
 ·skip
  refine s_seq ?_
  refine s_region ?_
  refine qv (v := .pointer (some ⟨g2, 7, none⟩)) (r_field fld_30_3 rfl rfl) ?_
  refine qv (v := .slice A7 l7.length c7) (r_load1 sz_24 rfl (S8.cell 1 rfl rfl)) ?_
  refine qv (v := .int .i64 ((l7.length : Nat) : Int)) (r_len_slice elm_24 rfl) ?_
  by_cases h7 : ((((l7.length : Nat) : Int) : Int) > 50)
  ·skip
   refine qv (v := .bool true) (r_gtr rfl rfl (decide_eq_true (h7))) ?_
   refine q_nil ?_
   refine x_seq ?_
   refine s_true rfl ?_
   refine s_region ?_
   refine qv (v := .pointer (some ⟨g2, 7, none⟩)) (r_field fld_30_3 rfl rfl) ?_
   refine qv (v := .slice A7 l7.length c7) (r_load1 sz_24 rfl (S8.cell 1 rfl rfl)) ?_
   refine qv (v := .slice A7 50 c7) (r_slice_h (q := 50) elm_24 rfl rfl (by omega) (by omega)) ?_
   refine qv (v := .pointer (some ⟨g2, 7, none⟩)) (r_field fld_30_3 rfl rfl) ?_
   refine qo ?_
   refine e_store (vs := [.slice A7 50 c7]) (cs' := [.int .i64 kd, .int .i64 fd, .int .i64 s0, .int .u32 s1, .bool b0, .slice A5 l5.length c5, .int .i64 s3, .slice A7 50 c7]) S8 rfl rfl rfl rfl sz_24 1 rfl (.inl rfl) rfl rfl rfl ?_
   intro w10 S11 E12
   refine q_nil ?_
   exact x_cut [(1, .pointer (some ⟨g2, 0, none⟩)), (2, .pointer (some ⟨g6, 0, none⟩))] ⟨rfl, rfl, trivial⟩ ⟨_, (l7.take 50), rfl, (by rw [show (l7.take 50).length = 50 from by rw [List.length_take]; omega]; exact S11), (by unfold cut50; rw [if_pos (by omega)]), (C_take HC7.out 50), (by rw [List.length_take]; omega), (by rw [List.length_take]; omega)⟩
  ·skip
   refine qv (v := .bool false) (r_gtr rfl rfl (decide_eq_false (h7))) ?_
   refine q_nil ?_
   refine x_seq ?_
   refine s_false rfl ?_
   refine s_skip ?_
   exact x_cut [(1, .pointer (some ⟨g2, 0, none⟩)), (2, .pointer (some ⟨g6, 0, none⟩))] ⟨rfl, rfl, trivial⟩ ⟨_, l7, rfl, S8, (by unfold cut50; rw [if_neg (by omega)]), HC7.out, (by omega), (by omega)⟩
 rintro L13 w14 ⟨U, m7, rfl, S15, hm7, hM7, hk7, hl7⟩
 refine x_seq ?_
 refine s_seq ?_
 refine s_cut .normal (fun L_ W_ => ∃ (U : List (Nat × Value)) (m5 : List Int), L_ = (1, .pointer (some ⟨g2, 0, none⟩)) :: (2, .pointer (some ⟨g6, 0, none⟩)) :: U ∧ St w no W_ [⟨g6, true, .cells #[.int .i64 0, .int .i64 0, .int .i64 0, .int .u32 0, .bool false, .slice none 0 0, .int .i64 0, .slice none 0 0] 30 (0, 0)⟩, ⟨g2, true, .cells #[.int .i64 kd, .int .i64 fd, .int .i64 s0, .int .u32 s1, .bool b0, .slice A5 m5.length c5, .int .i64 s3, .slice A7 m7.length c7] 30 (0, 0)⟩] ∧ m5 = cut50 l5 ∧ Kd.C (Kd.int .i64) w A5 m5.length m5 ∧ m5.length ≤ c5 ∧ m5.length ≤ 50) ?_ ?_
 ·skip
  refine s_seq ?_
  refine s_region ?_
  refine qv (v := .pointer (some ⟨g2, 2, none⟩)) (r_field fld_30_2 rfl rfl) ?_
  refine qv (v := .pointer (some ⟨g2, 4, none⟩)) (r_field fld_28_2 rfl rfl) ?_
  refine qv (v := .pointer (some ⟨g2, 5, none⟩)) (r_field fld_26_1 rfl rfl) ?_
  refine qv (v := .slice A5 l5.length c5) (r_load1 sz_24 rfl (S15.cell 1 rfl rfl)) ?_
  refine qv (v := .int .i64 ((l5.length : Nat) : Int)) (r_len_slice elm_24 rfl) ?_
  by_cases h5 : ((((l5.length : Nat) : Int) : Int) > 50)
  ·skip
   refine qv (v := .bool true) (r_gtr rfl rfl (decide_eq_true (h5))) ?_
   refine q_nil ?_
   refine x_seq ?_
   refine s_true rfl ?_
   refine s_region ?_
   refine qv (v := .pointer (some ⟨g2, 2, none⟩)) (r_field fld_30_2 rfl rfl) ?_
   refine qv (v := .pointer (some ⟨g2, 4, none⟩)) (r_field fld_28_2 rfl rfl) ?_
   refine qv (v := .pointer (some ⟨g2, 5, none⟩)) (r_field fld_26_1 rfl rfl) ?_
   refine qv (v := .slice A5 l5.length c5) (r_load1 sz_24 rfl (S15.cell 1 rfl rfl)) ?_
   refine qv (v := .slice A5 50 c5) (r_slice_h (q := 50) elm_24 rfl rfl (by omega) (by omega)) ?_
   refine qv (v := .pointer (some ⟨g2, 2, none⟩)) (r_field fld_30_2 rfl rfl) ?_
   refine qv (v := .pointer (some ⟨g2, 4, none⟩)) (r_field fld_28_2 rfl rfl) ?_
   refine qv (v := .pointer (some ⟨g2, 5, none⟩)) (r_field fld_26_1 rfl rfl) ?_
   refine qo ?_
   refine e_store (vs := [.slice A5 50 c5]) (cs' := [.int .i64 kd, .int .i64 fd, .int .i64 s0, .int .u32 s1, .bool b0, .slice A5 50 c5, .int .i64 s3, .slice A7 m7.length c7]) S15 rfl rfl rfl rfl sz_24 1 rfl (.inl rfl) rfl rfl rfl ?_
   intro w16 S17 E18
   refine q_nil ?_
   exact x_cut [(1, .pointer (some ⟨g2, 0, none⟩)), (2, .pointer (some ⟨g6, 0, none⟩))] ⟨rfl, rfl, trivial⟩ ⟨_, (l5.take 50), rfl, (by rw [show (l5.take 50).length = 50 from by rw [List.length_take]; omega]; exact S17), (by unfold cut50; rw [if_pos (by omega)]), (C_take HC5.out 50), (by rw [List.length_take]; omega), (by rw [List.length_take]; omega)⟩
  ·skip
   refine qv (v := .bool false) (r_gtr rfl rfl (decide_eq_false (h5))) ?_
   refine q_nil ?_
   refine x_seq ?_
   refine s_false rfl ?_
   refine s_skip ?_
   exact x_cut [(1, .pointer (some ⟨g2, 0, none⟩)), (2, .pointer (some ⟨g6, 0, none⟩))] ⟨rfl, rfl, trivial⟩ ⟨_, l5, rfl, S15, (by unfold cut50; rw [if_neg (by omega)]), HC5.out, (by omega), (by omega)⟩
 rintro L19 w20 ⟨U, m5, rfl, S21, hm5, hM5, hk5, hl5⟩
 refine x_seq ?_
 refine s_seq ?_
 refine d_start mix (fun _ => True) ?_
 have S22 := S21.draw
 generalize w20.drew = w23 at S22  ⊢
 refine dt 13 2 (v := .pointer (some ⟨g2, 7, none⟩)) 1 rfl rfl (wn rfl) (fun W hW => r_field fld_30_3 rfl rfl) trivial ?_
 refine dt 13 18 (v := .pointer (some ⟨g2, 2, none⟩)) 4 rfl rfl (wn rfl) (fun W hW => r_field fld_30_2 rfl rfl) trivial ?_
 refine dt 13 50 (v := .pointer (some ⟨g2, 4, none⟩)) 5 rfl rfl (wn rfl) (fun W hW => r_field fld_28_2 rfl rfl) trivial ?_
 refine d_three (la := lb 13 51) (lb := lb 13 54) (lc := lb 13 114) 0 2 6 rfl rfl rfl (by kernel_rfl) (wn rfl) (wn rfl) (wn rfl) (by kernel_rfl) (by kernel_rfl) (by kernel_rfl) ?_ ?_ ?_
 ·skip
  refine e_new (vf := fun g => .slice (some ⟨g, 0, none⟩) 0 0) (ob := .cells #[] 3) rfl S22 (r_buildSlice (ps := []) rfl (by kernel_rfl)) ?_
  intro g24 w25 hg24 S26 B27
  refine ⟨trivial, ?_⟩
  refine d_two (listed' := lb 13 55) (listed'' := lb 13 115) 2 6 rfl rfl (by kernel_rfl) (wn rfl) (wn rfl) (by kernel_rfl) (by kernel_rfl) ?_ ?_
  ·skip
   refine e_val (v := .slice A7 m7.length c7) rfl (r_load1 sz_24 rfl (S26.cell 2 rfl rfl)) ?_
   refine ⟨trivial, ?_⟩
   refine d_two (listed' := lb 13 63) (listed'' := lb 13 119) 3 6 rfl rfl (by kernel_rfl) (wn rfl) (wn rfl) (by kernel_rfl) (by kernel_rfl) ?_ ?_
   ·skip
    obtain ⟨v28, w28, hr28, HRa28, E28⟩ := append_row (c := c7) 24 (empty_row (base := w.heap.size) (S26.blk 0 rfl) (S26.own _ (List.mem_of_getElem? (i := 0) rfl) rfl)) (Kd.C_below hM7 S26.ext.below) (by first | (simp; done) | (simp; omega)) (S26.ext.size)
    rw [List.nil_append] at HRa28
    obtain ⟨Aa, ca, rfl⟩ := Kd.R_slice HRa28
    refine e_val (v := .slice Aa m7.length ca) rfl (r_append rfl rfl hr28) ?_
    obtain ⟨S28, F28⟩ := St_app S26 E28
    have HRa := Aside0.mk HRa28
    refine ⟨trivial, ?_⟩
    refine d1 13 127 6 rfl (wn rfl) ?_
    refine e_val (v := .agg #[.bool b0, .slice A5 m5.length c5]) rfl (r_loadN (vs := [.bool b0, .slice A5 m5.length c5]) sz_26 rfl (S28.blk 1 rfl) rfl rfl) ?_
    refine ⟨trivial, ?_⟩
    refine dt 13 383 (v := .pointer (some ⟨g2, 7, none⟩)) 8 rfl rfl (wn rfl) (fun W hW => r_field fld_30_3 rfl rfl) trivial ?_
    refine d1 13 511 7 rfl (wn rfl) ?_
    refine e_call (args := [.agg #[.bool b0, .slice A5 m5.length c5]]) Try.func38 (by kernel_rfl) rfl rfl ?_
    have hC5 := Kd.C_below hM5 S28.ext.below
    refine (Own_at b0 A5 c5 m5 m5.length rfl _ hC5 (by omega) (by omega)).mono ?_
    rintro e w29 ⟨v, rfl, ho, hb⟩
    obtain ⟨Ab, cb, rfl⟩ := Kd.R_slice ho
    refine ⟨_, rfl, ?_⟩
    have B30 := hb
    have S31 := S28.call B30
    replace HRa := rb HRa B30
    have HRb := Aside0.mk ho
    clear ho
    have HBo := S28.ext.size
    refine ⟨trivial, ?_⟩
    refine d1 13 1023 9 rfl (wn rfl) ?_
    refine e_store (vs := [.slice Aa m7.length ca]) (cs' := [.int .i64 kd, .int .i64 fd, .int .i64 s0, .int .u32 s1, .bool b0, .slice A5 m5.length c5, .int .i64 s3, .slice Aa m7.length ca]) S31 rfl rfl rfl rfl sz_24 1 rfl (.inl rfl) rfl rfl rfl ?_
    intro w32 S33 E34
    replace HRa := rx HRa E34 (S31.blk 1 rfl)
    replace HRb := rx HRb E34 (S31.blk 1 rfl)
    refine ⟨trivial, ?_⟩
    refine dt 13 2047 (v := .pointer (some ⟨g2, 2, none⟩)) 10 rfl rfl (wn rfl) (fun W hW => r_field fld_30_2 rfl rfl) trivial ?_
    refine dt 13 4095 (v := .pointer (some ⟨g2, 4, none⟩)) 11 rfl rfl (wn rfl) (fun W hW => r_field fld_28_2 rfl rfl) trivial ?_
    refine d1 13 8191 12 rfl (wn rfl) ?_
    refine e_store (vs := [.bool b0, .slice Ab m5.length cb]) (cs' := [.int .i64 kd, .int .i64 fd, .int .i64 s0, .int .u32 s1, .bool b0, .slice Ab m5.length cb, .int .i64 s3, .slice Aa m7.length ca]) S33 rfl rfl rfl rfl sz_26 1 rfl (.inl rfl) rfl rfl rfl ?_
    intro w35 S36 E37
    replace HRa := rx HRa E37 (S33.blk 1 rfl)
    replace HRb := rx HRb E37 (S33.blk 1 rfl)
    refine ⟨trivial, ?_⟩
    refine d_done (by kernel_rfl) ?_
    refine x_seq ?_
    refine s_seq ?_
    refine s_region ?_
    refine qv (v := .agg #[.int .i64 kd, .int .i64 fd, .int .i64 s0, .int .u32 s1, .bool b0, .slice Ab m5.length cb, .int .i64 s3, .slice Aa m7.length ca]) (r_loadN (vs := [.int .i64 kd, .int .i64 fd, .int .i64 s0, .int .u32 s1, .bool b0, .slice Ab m5.length cb, .int .i64 s3, .slice Aa m7.length ca]) sz_30 rfl (S36.blk 1 rfl) rfl rfl) ?_
    refine qo ?_
    refine e_store (vs := [.int .i64 kd, .int .i64 fd, .int .i64 s0, .int .u32 s1, .bool b0, .slice Ab m5.length cb, .int .i64 s3, .slice Aa m7.length ca]) (cs' := [.int .i64 kd, .int .i64 fd, .int .i64 s0, .int .u32 s1, .bool b0, .slice Ab m5.length cb, .int .i64 s3, .slice Aa m7.length ca]) S36 rfl rfl rfl rfl sz_30 0 rfl (.inl rfl) rfl rfl rfl ?_
    intro w38 S39 E40
    replace HRa := rx HRa E40 (S36.blk 0 rfl)
    replace HRb := rx HRb E40 (S36.blk 0 rfl)
    refine q_nil ?_
    refine x_seq ?_
    refine s_ret ?_
    refine t_retc (cs := [.int .i64 kd, .int .i64 fd, .int .i64 s0, .int .u32 s1, .bool b0, .slice Ab m5.length cb, .int .i64 s3, .slice Aa m7.length ca])  rfl rfl (S39.blk 0 rfl) sz_30 ?_
    rw [← hm5, ← hm7]
    exact ⟨_, _, rfl, Kd.R_lower HRb.out HBo, HRa.out, S39.ext.below⟩
   ·skip
    refine e_val (v := .agg #[.bool b0, .slice A5 m5.length c5]) rfl (r_loadN (vs := [.bool b0, .slice A5 m5.length c5]) sz_26 rfl (S26.blk 2 rfl) rfl rfl) ?_
    refine ⟨trivial, ?_⟩
    refine d1 13 127 3 rfl (wn rfl) ?_
    obtain ⟨v41, w41, hr41, HRa41, E41⟩ := append_row (c := c7) 24 (empty_row (base := w.heap.size) (S26.blk 0 rfl) (S26.own _ (List.mem_of_getElem? (i := 0) rfl) rfl)) (Kd.C_below hM7 S26.ext.below) (by first | (simp; done) | (simp; omega)) (S26.ext.size)
    rw [List.nil_append] at HRa41
    obtain ⟨Aa, ca, rfl⟩ := Kd.R_slice HRa41
    refine e_val (v := .slice Aa m7.length ca) rfl (r_append rfl rfl hr41) ?_
    obtain ⟨S41, F41⟩ := St_app S26 E41
    have HRa := Aside0.mk HRa41
    refine ⟨trivial, ?_⟩
    refine dt 13 383 (v := .pointer (some ⟨g2, 7, none⟩)) 8 rfl rfl (wn rfl) (fun W hW => r_field fld_30_3 rfl rfl) trivial ?_
    refine d1 13 511 7 rfl (wn rfl) ?_
    refine e_call (args := [.agg #[.bool b0, .slice A5 m5.length c5]]) Try.func38 (by kernel_rfl) rfl rfl ?_
    have hC5 := Kd.C_below hM5 S41.ext.below
    refine (Own_at b0 A5 c5 m5 m5.length rfl _ hC5 (by omega) (by omega)).mono ?_
    rintro e w42 ⟨v, rfl, ho, hb⟩
    obtain ⟨Ab, cb, rfl⟩ := Kd.R_slice ho
    refine ⟨_, rfl, ?_⟩
    have B43 := hb
    have S44 := S41.call B43
    replace HRa := rb HRa B43
    have HRb := Aside0.mk ho
    clear ho
    have HBo := S41.ext.size
    refine ⟨trivial, ?_⟩
    refine d1 13 1023 9 rfl (wn rfl) ?_
    refine e_store (vs := [.slice Aa m7.length ca]) (cs' := [.int .i64 kd, .int .i64 fd, .int .i64 s0, .int .u32 s1, .bool b0, .slice A5 m5.length c5, .int .i64 s3, .slice Aa m7.length ca]) S44 rfl rfl rfl rfl sz_24 1 rfl (.inl rfl) rfl rfl rfl ?_
    intro w45 S46 E47
    replace HRa := rx HRa E47 (S44.blk 1 rfl)
    replace HRb := rx HRb E47 (S44.blk 1 rfl)
    refine ⟨trivial, ?_⟩
    refine dt 13 2047 (v := .pointer (some ⟨g2, 2, none⟩)) 10 rfl rfl (wn rfl) (fun W hW => r_field fld_30_2 rfl rfl) trivial ?_
    refine dt 13 4095 (v := .pointer (some ⟨g2, 4, none⟩)) 11 rfl rfl (wn rfl) (fun W hW => r_field fld_28_2 rfl rfl) trivial ?_
    refine d1 13 8191 12 rfl (wn rfl) ?_
    refine e_store (vs := [.bool b0, .slice Ab m5.length cb]) (cs' := [.int .i64 kd, .int .i64 fd, .int .i64 s0, .int .u32 s1, .bool b0, .slice Ab m5.length cb, .int .i64 s3, .slice Aa m7.length ca]) S46 rfl rfl rfl rfl sz_26 1 rfl (.inl rfl) rfl rfl rfl ?_
    intro w48 S49 E50
    replace HRa := rx HRa E50 (S46.blk 1 rfl)
    replace HRb := rx HRb E50 (S46.blk 1 rfl)
    refine ⟨trivial, ?_⟩
    refine d_done (by kernel_rfl) ?_
    refine x_seq ?_
    refine s_seq ?_
    refine s_region ?_
    refine qv (v := .agg #[.int .i64 kd, .int .i64 fd, .int .i64 s0, .int .u32 s1, .bool b0, .slice Ab m5.length cb, .int .i64 s3, .slice Aa m7.length ca]) (r_loadN (vs := [.int .i64 kd, .int .i64 fd, .int .i64 s0, .int .u32 s1, .bool b0, .slice Ab m5.length cb, .int .i64 s3, .slice Aa m7.length ca]) sz_30 rfl (S49.blk 1 rfl) rfl rfl) ?_
    refine qo ?_
    refine e_store (vs := [.int .i64 kd, .int .i64 fd, .int .i64 s0, .int .u32 s1, .bool b0, .slice Ab m5.length cb, .int .i64 s3, .slice Aa m7.length ca]) (cs' := [.int .i64 kd, .int .i64 fd, .int .i64 s0, .int .u32 s1, .bool b0, .slice Ab m5.length cb, .int .i64 s3, .slice Aa m7.length ca]) S49 rfl rfl rfl rfl sz_30 0 rfl (.inl rfl) rfl rfl rfl ?_
    intro w51 S52 E53
    replace HRa := rx HRa E53 (S49.blk 0 rfl)
    replace HRb := rx HRb E53 (S49.blk 0 rfl)
    refine q_nil ?_
    refine x_seq ?_
    refine s_ret ?_
    refine t_retc (cs := [.int .i64 kd, .int .i64 fd, .int .i64 s0, .int .u32 s1, .bool b0, .slice Ab m5.length cb, .int .i64 s3, .slice Aa m7.length ca])  rfl rfl (S52.blk 0 rfl) sz_30 ?_
    rw [← hm5, ← hm7]
    exact ⟨_, _, rfl, Kd.R_lower HRb.out HBo, HRa.out, S52.ext.below⟩
  ·skip
   refine e_val (v := .agg #[.bool b0, .slice A5 m5.length c5]) rfl (r_loadN (vs := [.bool b0, .slice A5 m5.length c5]) sz_26 rfl (S26.blk 2 rfl) rfl rfl) ?_
   refine ⟨trivial, ?_⟩
   refine d1 13 119 2 rfl (wn rfl) ?_
   refine e_val (v := .slice A7 m7.length c7) rfl (r_load1 sz_24 rfl (S26.cell 2 rfl rfl)) ?_
   refine ⟨trivial, ?_⟩
   refine d1 13 127 3 rfl (wn rfl) ?_
   obtain ⟨v54, w54, hr54, HRa54, E54⟩ := append_row (c := c7) 24 (empty_row (base := w.heap.size) (S26.blk 0 rfl) (S26.own _ (List.mem_of_getElem? (i := 0) rfl) rfl)) (Kd.C_below hM7 S26.ext.below) (by first | (simp; done) | (simp; omega)) (S26.ext.size)
   rw [List.nil_append] at HRa54
   obtain ⟨Aa, ca, rfl⟩ := Kd.R_slice HRa54
   refine e_val (v := .slice Aa m7.length ca) rfl (r_append rfl rfl hr54) ?_
   obtain ⟨S54, F54⟩ := St_app S26 E54
   have HRa := Aside0.mk HRa54
   refine ⟨trivial, ?_⟩
   refine dt 13 383 (v := .pointer (some ⟨g2, 7, none⟩)) 8 rfl rfl (wn rfl) (fun W hW => r_field fld_30_3 rfl rfl) trivial ?_
   refine d1 13 511 7 rfl (wn rfl) ?_
   refine e_call (args := [.agg #[.bool b0, .slice A5 m5.length c5]]) Try.func38 (by kernel_rfl) rfl rfl ?_
   have hC5 := Kd.C_below hM5 S54.ext.below
   refine (Own_at b0 A5 c5 m5 m5.length rfl _ hC5 (by omega) (by omega)).mono ?_
   rintro e w55 ⟨v, rfl, ho, hb⟩
   obtain ⟨Ab, cb, rfl⟩ := Kd.R_slice ho
   refine ⟨_, rfl, ?_⟩
   have B56 := hb
   have S57 := S54.call B56
   replace HRa := rb HRa B56
   have HRb := Aside0.mk ho
   clear ho
   have HBo := S54.ext.size
   refine ⟨trivial, ?_⟩
   refine d1 13 1023 9 rfl (wn rfl) ?_
   refine e_store (vs := [.slice Aa m7.length ca]) (cs' := [.int .i64 kd, .int .i64 fd, .int .i64 s0, .int .u32 s1, .bool b0, .slice A5 m5.length c5, .int .i64 s3, .slice Aa m7.length ca]) S57 rfl rfl rfl rfl sz_24 1 rfl (.inl rfl) rfl rfl rfl ?_
   intro w58 S59 E60
   replace HRa := rx HRa E60 (S57.blk 1 rfl)
   replace HRb := rx HRb E60 (S57.blk 1 rfl)
   refine ⟨trivial, ?_⟩
   refine dt 13 2047 (v := .pointer (some ⟨g2, 2, none⟩)) 10 rfl rfl (wn rfl) (fun W hW => r_field fld_30_2 rfl rfl) trivial ?_
   refine dt 13 4095 (v := .pointer (some ⟨g2, 4, none⟩)) 11 rfl rfl (wn rfl) (fun W hW => r_field fld_28_2 rfl rfl) trivial ?_
   refine d1 13 8191 12 rfl (wn rfl) ?_
   refine e_store (vs := [.bool b0, .slice Ab m5.length cb]) (cs' := [.int .i64 kd, .int .i64 fd, .int .i64 s0, .int .u32 s1, .bool b0, .slice Ab m5.length cb, .int .i64 s3, .slice Aa m7.length ca]) S59 rfl rfl rfl rfl sz_26 1 rfl (.inl rfl) rfl rfl rfl ?_
   intro w61 S62 E63
   replace HRa := rx HRa E63 (S59.blk 1 rfl)
   replace HRb := rx HRb E63 (S59.blk 1 rfl)
   refine ⟨trivial, ?_⟩
   refine d_done (by kernel_rfl) ?_
   refine x_seq ?_
   refine s_seq ?_
   refine s_region ?_
   refine qv (v := .agg #[.int .i64 kd, .int .i64 fd, .int .i64 s0, .int .u32 s1, .bool b0, .slice Ab m5.length cb, .int .i64 s3, .slice Aa m7.length ca]) (r_loadN (vs := [.int .i64 kd, .int .i64 fd, .int .i64 s0, .int .u32 s1, .bool b0, .slice Ab m5.length cb, .int .i64 s3, .slice Aa m7.length ca]) sz_30 rfl (S62.blk 1 rfl) rfl rfl) ?_
   refine qo ?_
   refine e_store (vs := [.int .i64 kd, .int .i64 fd, .int .i64 s0, .int .u32 s1, .bool b0, .slice Ab m5.length cb, .int .i64 s3, .slice Aa m7.length ca]) (cs' := [.int .i64 kd, .int .i64 fd, .int .i64 s0, .int .u32 s1, .bool b0, .slice Ab m5.length cb, .int .i64 s3, .slice Aa m7.length ca]) S62 rfl rfl rfl rfl sz_30 0 rfl (.inl rfl) rfl rfl rfl ?_
   intro w64 S65 E66
   replace HRa := rx HRa E66 (S62.blk 0 rfl)
   replace HRb := rx HRb E66 (S62.blk 0 rfl)
   refine q_nil ?_
   refine x_seq ?_
   refine s_ret ?_
   refine t_retc (cs := [.int .i64 kd, .int .i64 fd, .int .i64 s0, .int .u32 s1, .bool b0, .slice Ab m5.length cb, .int .i64 s3, .slice Aa m7.length ca])  rfl rfl (S65.blk 0 rfl) sz_30 ?_
   rw [← hm5, ← hm7]
   exact ⟨_, _, rfl, Kd.R_lower HRb.out HBo, HRa.out, S65.ext.below⟩
 ·skip
  refine e_val (v := .slice A7 m7.length c7) rfl (r_load1 sz_24 rfl (S22.cell 1 rfl rfl)) ?_
  refine ⟨trivial, ?_⟩
  refine d_two (listed' := lb 13 55) (listed'' := lb 13 118) 0 6 rfl rfl (by kernel_rfl) (wn rfl) (wn rfl) (by kernel_rfl) (by kernel_rfl) ?_ ?_
  ·skip
   refine e_new (vf := fun g => .slice (some ⟨g, 0, none⟩) 0 0) (ob := .cells #[] 3) rfl S22 (r_buildSlice (ps := []) rfl (by kernel_rfl)) ?_
   intro g67 w68 hg67 S69 B70
   refine ⟨trivial, ?_⟩
   refine d_two (listed' := lb 13 63) (listed'' := lb 13 119) 3 6 rfl rfl (by kernel_rfl) (wn rfl) (wn rfl) (by kernel_rfl) (by kernel_rfl) ?_ ?_
   ·skip
    obtain ⟨v71, w71, hr71, HRa71, E71⟩ := append_row (c := c7) 24 (empty_row (base := w.heap.size) (S69.blk 0 rfl) (S69.own _ (List.mem_of_getElem? (i := 0) rfl) rfl)) (Kd.C_below hM7 S69.ext.below) (by first | (simp; done) | (simp; omega)) (S69.ext.size)
    rw [List.nil_append] at HRa71
    obtain ⟨Aa, ca, rfl⟩ := Kd.R_slice HRa71
    refine e_val (v := .slice Aa m7.length ca) rfl (r_append rfl rfl hr71) ?_
    obtain ⟨S71, F71⟩ := St_app S69 E71
    have HRa := Aside0.mk HRa71
    refine ⟨trivial, ?_⟩
    refine d1 13 127 6 rfl (wn rfl) ?_
    refine e_val (v := .agg #[.bool b0, .slice A5 m5.length c5]) rfl (r_loadN (vs := [.bool b0, .slice A5 m5.length c5]) sz_26 rfl (S71.blk 1 rfl) rfl rfl) ?_
    refine ⟨trivial, ?_⟩
    refine dt 13 383 (v := .pointer (some ⟨g2, 7, none⟩)) 8 rfl rfl (wn rfl) (fun W hW => r_field fld_30_3 rfl rfl) trivial ?_
    refine d1 13 511 7 rfl (wn rfl) ?_
    refine e_call (args := [.agg #[.bool b0, .slice A5 m5.length c5]]) Try.func38 (by kernel_rfl) rfl rfl ?_
    have hC5 := Kd.C_below hM5 S71.ext.below
    refine (Own_at b0 A5 c5 m5 m5.length rfl _ hC5 (by omega) (by omega)).mono ?_
    rintro e w72 ⟨v, rfl, ho, hb⟩
    obtain ⟨Ab, cb, rfl⟩ := Kd.R_slice ho
    refine ⟨_, rfl, ?_⟩
    have B73 := hb
    have S74 := S71.call B73
    replace HRa := rb HRa B73
    have HRb := Aside0.mk ho
    clear ho
    have HBo := S71.ext.size
    refine ⟨trivial, ?_⟩
    refine d1 13 1023 9 rfl (wn rfl) ?_
    refine e_store (vs := [.slice Aa m7.length ca]) (cs' := [.int .i64 kd, .int .i64 fd, .int .i64 s0, .int .u32 s1, .bool b0, .slice A5 m5.length c5, .int .i64 s3, .slice Aa m7.length ca]) S74 rfl rfl rfl rfl sz_24 1 rfl (.inl rfl) rfl rfl rfl ?_
    intro w75 S76 E77
    replace HRa := rx HRa E77 (S74.blk 1 rfl)
    replace HRb := rx HRb E77 (S74.blk 1 rfl)
    refine ⟨trivial, ?_⟩
    refine dt 13 2047 (v := .pointer (some ⟨g2, 2, none⟩)) 10 rfl rfl (wn rfl) (fun W hW => r_field fld_30_2 rfl rfl) trivial ?_
    refine dt 13 4095 (v := .pointer (some ⟨g2, 4, none⟩)) 11 rfl rfl (wn rfl) (fun W hW => r_field fld_28_2 rfl rfl) trivial ?_
    refine d1 13 8191 12 rfl (wn rfl) ?_
    refine e_store (vs := [.bool b0, .slice Ab m5.length cb]) (cs' := [.int .i64 kd, .int .i64 fd, .int .i64 s0, .int .u32 s1, .bool b0, .slice Ab m5.length cb, .int .i64 s3, .slice Aa m7.length ca]) S76 rfl rfl rfl rfl sz_26 1 rfl (.inl rfl) rfl rfl rfl ?_
    intro w78 S79 E80
    replace HRa := rx HRa E80 (S76.blk 1 rfl)
    replace HRb := rx HRb E80 (S76.blk 1 rfl)
    refine ⟨trivial, ?_⟩
    refine d_done (by kernel_rfl) ?_
    refine x_seq ?_
    refine s_seq ?_
    refine s_region ?_
    refine qv (v := .agg #[.int .i64 kd, .int .i64 fd, .int .i64 s0, .int .u32 s1, .bool b0, .slice Ab m5.length cb, .int .i64 s3, .slice Aa m7.length ca]) (r_loadN (vs := [.int .i64 kd, .int .i64 fd, .int .i64 s0, .int .u32 s1, .bool b0, .slice Ab m5.length cb, .int .i64 s3, .slice Aa m7.length ca]) sz_30 rfl (S79.blk 1 rfl) rfl rfl) ?_
    refine qo ?_
    refine e_store (vs := [.int .i64 kd, .int .i64 fd, .int .i64 s0, .int .u32 s1, .bool b0, .slice Ab m5.length cb, .int .i64 s3, .slice Aa m7.length ca]) (cs' := [.int .i64 kd, .int .i64 fd, .int .i64 s0, .int .u32 s1, .bool b0, .slice Ab m5.length cb, .int .i64 s3, .slice Aa m7.length ca]) S79 rfl rfl rfl rfl sz_30 0 rfl (.inl rfl) rfl rfl rfl ?_
    intro w81 S82 E83
    replace HRa := rx HRa E83 (S79.blk 0 rfl)
    replace HRb := rx HRb E83 (S79.blk 0 rfl)
    refine q_nil ?_
    refine x_seq ?_
    refine s_ret ?_
    refine t_retc (cs := [.int .i64 kd, .int .i64 fd, .int .i64 s0, .int .u32 s1, .bool b0, .slice Ab m5.length cb, .int .i64 s3, .slice Aa m7.length ca])  rfl rfl (S82.blk 0 rfl) sz_30 ?_
    rw [← hm5, ← hm7]
    exact ⟨_, _, rfl, Kd.R_lower HRb.out HBo, HRa.out, S82.ext.below⟩
   ·skip
    refine e_val (v := .agg #[.bool b0, .slice A5 m5.length c5]) rfl (r_loadN (vs := [.bool b0, .slice A5 m5.length c5]) sz_26 rfl (S69.blk 2 rfl) rfl rfl) ?_
    refine ⟨trivial, ?_⟩
    refine d1 13 127 3 rfl (wn rfl) ?_
    obtain ⟨v84, w84, hr84, HRa84, E84⟩ := append_row (c := c7) 24 (empty_row (base := w.heap.size) (S69.blk 0 rfl) (S69.own _ (List.mem_of_getElem? (i := 0) rfl) rfl)) (Kd.C_below hM7 S69.ext.below) (by first | (simp; done) | (simp; omega)) (S69.ext.size)
    rw [List.nil_append] at HRa84
    obtain ⟨Aa, ca, rfl⟩ := Kd.R_slice HRa84
    refine e_val (v := .slice Aa m7.length ca) rfl (r_append rfl rfl hr84) ?_
    obtain ⟨S84, F84⟩ := St_app S69 E84
    have HRa := Aside0.mk HRa84
    refine ⟨trivial, ?_⟩
    refine dt 13 383 (v := .pointer (some ⟨g2, 7, none⟩)) 8 rfl rfl (wn rfl) (fun W hW => r_field fld_30_3 rfl rfl) trivial ?_
    refine d1 13 511 7 rfl (wn rfl) ?_
    refine e_call (args := [.agg #[.bool b0, .slice A5 m5.length c5]]) Try.func38 (by kernel_rfl) rfl rfl ?_
    have hC5 := Kd.C_below hM5 S84.ext.below
    refine (Own_at b0 A5 c5 m5 m5.length rfl _ hC5 (by omega) (by omega)).mono ?_
    rintro e w85 ⟨v, rfl, ho, hb⟩
    obtain ⟨Ab, cb, rfl⟩ := Kd.R_slice ho
    refine ⟨_, rfl, ?_⟩
    have B86 := hb
    have S87 := S84.call B86
    replace HRa := rb HRa B86
    have HRb := Aside0.mk ho
    clear ho
    have HBo := S84.ext.size
    refine ⟨trivial, ?_⟩
    refine d1 13 1023 9 rfl (wn rfl) ?_
    refine e_store (vs := [.slice Aa m7.length ca]) (cs' := [.int .i64 kd, .int .i64 fd, .int .i64 s0, .int .u32 s1, .bool b0, .slice A5 m5.length c5, .int .i64 s3, .slice Aa m7.length ca]) S87 rfl rfl rfl rfl sz_24 1 rfl (.inl rfl) rfl rfl rfl ?_
    intro w88 S89 E90
    replace HRa := rx HRa E90 (S87.blk 1 rfl)
    replace HRb := rx HRb E90 (S87.blk 1 rfl)
    refine ⟨trivial, ?_⟩
    refine dt 13 2047 (v := .pointer (some ⟨g2, 2, none⟩)) 10 rfl rfl (wn rfl) (fun W hW => r_field fld_30_2 rfl rfl) trivial ?_
    refine dt 13 4095 (v := .pointer (some ⟨g2, 4, none⟩)) 11 rfl rfl (wn rfl) (fun W hW => r_field fld_28_2 rfl rfl) trivial ?_
    refine d1 13 8191 12 rfl (wn rfl) ?_
    refine e_store (vs := [.bool b0, .slice Ab m5.length cb]) (cs' := [.int .i64 kd, .int .i64 fd, .int .i64 s0, .int .u32 s1, .bool b0, .slice Ab m5.length cb, .int .i64 s3, .slice Aa m7.length ca]) S89 rfl rfl rfl rfl sz_26 1 rfl (.inl rfl) rfl rfl rfl ?_
    intro w91 S92 E93
    replace HRa := rx HRa E93 (S89.blk 1 rfl)
    replace HRb := rx HRb E93 (S89.blk 1 rfl)
    refine ⟨trivial, ?_⟩
    refine d_done (by kernel_rfl) ?_
    refine x_seq ?_
    refine s_seq ?_
    refine s_region ?_
    refine qv (v := .agg #[.int .i64 kd, .int .i64 fd, .int .i64 s0, .int .u32 s1, .bool b0, .slice Ab m5.length cb, .int .i64 s3, .slice Aa m7.length ca]) (r_loadN (vs := [.int .i64 kd, .int .i64 fd, .int .i64 s0, .int .u32 s1, .bool b0, .slice Ab m5.length cb, .int .i64 s3, .slice Aa m7.length ca]) sz_30 rfl (S92.blk 1 rfl) rfl rfl) ?_
    refine qo ?_
    refine e_store (vs := [.int .i64 kd, .int .i64 fd, .int .i64 s0, .int .u32 s1, .bool b0, .slice Ab m5.length cb, .int .i64 s3, .slice Aa m7.length ca]) (cs' := [.int .i64 kd, .int .i64 fd, .int .i64 s0, .int .u32 s1, .bool b0, .slice Ab m5.length cb, .int .i64 s3, .slice Aa m7.length ca]) S92 rfl rfl rfl rfl sz_30 0 rfl (.inl rfl) rfl rfl rfl ?_
    intro w94 S95 E96
    replace HRa := rx HRa E96 (S92.blk 0 rfl)
    replace HRb := rx HRb E96 (S92.blk 0 rfl)
    refine q_nil ?_
    refine x_seq ?_
    refine s_ret ?_
    refine t_retc (cs := [.int .i64 kd, .int .i64 fd, .int .i64 s0, .int .u32 s1, .bool b0, .slice Ab m5.length cb, .int .i64 s3, .slice Aa m7.length ca])  rfl rfl (S95.blk 0 rfl) sz_30 ?_
    rw [← hm5, ← hm7]
    exact ⟨_, _, rfl, Kd.R_lower HRb.out HBo, HRa.out, S95.ext.below⟩
  ·skip
   refine e_val (v := .agg #[.bool b0, .slice A5 m5.length c5]) rfl (r_loadN (vs := [.bool b0, .slice A5 m5.length c5]) sz_26 rfl (S22.blk 1 rfl) rfl rfl) ?_
   refine ⟨trivial, ?_⟩
   refine d1 13 119 0 rfl (wn rfl) ?_
   refine e_new (vf := fun g => .slice (some ⟨g, 0, none⟩) 0 0) (ob := .cells #[] 3) rfl S22 (r_buildSlice (ps := []) rfl (by kernel_rfl)) ?_
   intro g97 w98 hg97 S99 B100
   refine ⟨trivial, ?_⟩
   refine d1 13 127 3 rfl (wn rfl) ?_
   obtain ⟨v101, w101, hr101, HRa101, E101⟩ := append_row (c := c7) 24 (empty_row (base := w.heap.size) (S99.blk 0 rfl) (S99.own _ (List.mem_of_getElem? (i := 0) rfl) rfl)) (Kd.C_below hM7 S99.ext.below) (by first | (simp; done) | (simp; omega)) (S99.ext.size)
   rw [List.nil_append] at HRa101
   obtain ⟨Aa, ca, rfl⟩ := Kd.R_slice HRa101
   refine e_val (v := .slice Aa m7.length ca) rfl (r_append rfl rfl hr101) ?_
   obtain ⟨S101, F101⟩ := St_app S99 E101
   have HRa := Aside0.mk HRa101
   refine ⟨trivial, ?_⟩
   refine dt 13 383 (v := .pointer (some ⟨g2, 7, none⟩)) 8 rfl rfl (wn rfl) (fun W hW => r_field fld_30_3 rfl rfl) trivial ?_
   refine d1 13 511 7 rfl (wn rfl) ?_
   refine e_call (args := [.agg #[.bool b0, .slice A5 m5.length c5]]) Try.func38 (by kernel_rfl) rfl rfl ?_
   have hC5 := Kd.C_below hM5 S101.ext.below
   refine (Own_at b0 A5 c5 m5 m5.length rfl _ hC5 (by omega) (by omega)).mono ?_
   rintro e w102 ⟨v, rfl, ho, hb⟩
   obtain ⟨Ab, cb, rfl⟩ := Kd.R_slice ho
   refine ⟨_, rfl, ?_⟩
   have B103 := hb
   have S104 := S101.call B103
   replace HRa := rb HRa B103
   have HRb := Aside0.mk ho
   clear ho
   have HBo := S101.ext.size
   refine ⟨trivial, ?_⟩
   refine d1 13 1023 9 rfl (wn rfl) ?_
   refine e_store (vs := [.slice Aa m7.length ca]) (cs' := [.int .i64 kd, .int .i64 fd, .int .i64 s0, .int .u32 s1, .bool b0, .slice A5 m5.length c5, .int .i64 s3, .slice Aa m7.length ca]) S104 rfl rfl rfl rfl sz_24 1 rfl (.inl rfl) rfl rfl rfl ?_
   intro w105 S106 E107
   replace HRa := rx HRa E107 (S104.blk 1 rfl)
   replace HRb := rx HRb E107 (S104.blk 1 rfl)
   refine ⟨trivial, ?_⟩
   refine dt 13 2047 (v := .pointer (some ⟨g2, 2, none⟩)) 10 rfl rfl (wn rfl) (fun W hW => r_field fld_30_2 rfl rfl) trivial ?_
   refine dt 13 4095 (v := .pointer (some ⟨g2, 4, none⟩)) 11 rfl rfl (wn rfl) (fun W hW => r_field fld_28_2 rfl rfl) trivial ?_
   refine d1 13 8191 12 rfl (wn rfl) ?_
   refine e_store (vs := [.bool b0, .slice Ab m5.length cb]) (cs' := [.int .i64 kd, .int .i64 fd, .int .i64 s0, .int .u32 s1, .bool b0, .slice Ab m5.length cb, .int .i64 s3, .slice Aa m7.length ca]) S106 rfl rfl rfl rfl sz_26 1 rfl (.inl rfl) rfl rfl rfl ?_
   intro w108 S109 E110
   replace HRa := rx HRa E110 (S106.blk 1 rfl)
   replace HRb := rx HRb E110 (S106.blk 1 rfl)
   refine ⟨trivial, ?_⟩
   refine d_done (by kernel_rfl) ?_
   refine x_seq ?_
   refine s_seq ?_
   refine s_region ?_
   refine qv (v := .agg #[.int .i64 kd, .int .i64 fd, .int .i64 s0, .int .u32 s1, .bool b0, .slice Ab m5.length cb, .int .i64 s3, .slice Aa m7.length ca]) (r_loadN (vs := [.int .i64 kd, .int .i64 fd, .int .i64 s0, .int .u32 s1, .bool b0, .slice Ab m5.length cb, .int .i64 s3, .slice Aa m7.length ca]) sz_30 rfl (S109.blk 1 rfl) rfl rfl) ?_
   refine qo ?_
   refine e_store (vs := [.int .i64 kd, .int .i64 fd, .int .i64 s0, .int .u32 s1, .bool b0, .slice Ab m5.length cb, .int .i64 s3, .slice Aa m7.length ca]) (cs' := [.int .i64 kd, .int .i64 fd, .int .i64 s0, .int .u32 s1, .bool b0, .slice Ab m5.length cb, .int .i64 s3, .slice Aa m7.length ca]) S109 rfl rfl rfl rfl sz_30 0 rfl (.inl rfl) rfl rfl rfl ?_
   intro w111 S112 E113
   replace HRa := rx HRa E113 (S109.blk 0 rfl)
   replace HRb := rx HRb E113 (S109.blk 0 rfl)
   refine q_nil ?_
   refine x_seq ?_
   refine s_ret ?_
   refine t_retc (cs := [.int .i64 kd, .int .i64 fd, .int .i64 s0, .int .u32 s1, .bool b0, .slice Ab m5.length cb, .int .i64 s3, .slice Aa m7.length ca])  rfl rfl (S112.blk 0 rfl) sz_30 ?_
   rw [← hm5, ← hm7]
   exact ⟨_, _, rfl, Kd.R_lower HRb.out HBo, HRa.out, S112.ext.below⟩
 ·skip
  refine e_val (v := .agg #[.bool b0, .slice A5 m5.length c5]) rfl (r_loadN (vs := [.bool b0, .slice A5 m5.length c5]) sz_26 rfl (S22.blk 1 rfl) rfl rfl) ?_
  refine ⟨trivial, ?_⟩
  refine d_two (listed' := lb 13 115) (listed'' := lb 13 118) 0 2 rfl rfl (by kernel_rfl) (wn rfl) (wn rfl) (by kernel_rfl) (by kernel_rfl) ?_ ?_
  ·skip
   refine e_new (vf := fun g => .slice (some ⟨g, 0, none⟩) 0 0) (ob := .cells #[] 3) rfl S22 (r_buildSlice (ps := []) rfl (by kernel_rfl)) ?_
   intro g114 w115 hg114 S116 B117
   refine ⟨trivial, ?_⟩
   refine d1 13 119 2 rfl (wn rfl) ?_
   refine e_val (v := .slice A7 m7.length c7) rfl (r_load1 sz_24 rfl (S116.cell 2 rfl rfl)) ?_
   refine ⟨trivial, ?_⟩
   refine d1 13 127 3 rfl (wn rfl) ?_
   obtain ⟨v118, w118, hr118, HRa118, E118⟩ := append_row (c := c7) 24 (empty_row (base := w.heap.size) (S116.blk 0 rfl) (S116.own _ (List.mem_of_getElem? (i := 0) rfl) rfl)) (Kd.C_below hM7 S116.ext.below) (by first | (simp; done) | (simp; omega)) (S116.ext.size)
   rw [List.nil_append] at HRa118
   obtain ⟨Aa, ca, rfl⟩ := Kd.R_slice HRa118
   refine e_val (v := .slice Aa m7.length ca) rfl (r_append rfl rfl hr118) ?_
   obtain ⟨S118, F118⟩ := St_app S116 E118
   have HRa := Aside0.mk HRa118
   refine ⟨trivial, ?_⟩
   refine dt 13 383 (v := .pointer (some ⟨g2, 7, none⟩)) 8 rfl rfl (wn rfl) (fun W hW => r_field fld_30_3 rfl rfl) trivial ?_
   refine d1 13 511 7 rfl (wn rfl) ?_
   refine e_call (args := [.agg #[.bool b0, .slice A5 m5.length c5]]) Try.func38 (by kernel_rfl) rfl rfl ?_
   have hC5 := Kd.C_below hM5 S118.ext.below
   refine (Own_at b0 A5 c5 m5 m5.length rfl _ hC5 (by omega) (by omega)).mono ?_
   rintro e w119 ⟨v, rfl, ho, hb⟩
   obtain ⟨Ab, cb, rfl⟩ := Kd.R_slice ho
   refine ⟨_, rfl, ?_⟩
   have B120 := hb
   have S121 := S118.call B120
   replace HRa := rb HRa B120
   have HRb := Aside0.mk ho
   clear ho
   have HBo := S118.ext.size
   refine ⟨trivial, ?_⟩
   refine d1 13 1023 9 rfl (wn rfl) ?_
   refine e_store (vs := [.slice Aa m7.length ca]) (cs' := [.int .i64 kd, .int .i64 fd, .int .i64 s0, .int .u32 s1, .bool b0, .slice A5 m5.length c5, .int .i64 s3, .slice Aa m7.length ca]) S121 rfl rfl rfl rfl sz_24 1 rfl (.inl rfl) rfl rfl rfl ?_
   intro w122 S123 E124
   replace HRa := rx HRa E124 (S121.blk 1 rfl)
   replace HRb := rx HRb E124 (S121.blk 1 rfl)
   refine ⟨trivial, ?_⟩
   refine dt 13 2047 (v := .pointer (some ⟨g2, 2, none⟩)) 10 rfl rfl (wn rfl) (fun W hW => r_field fld_30_2 rfl rfl) trivial ?_
   refine dt 13 4095 (v := .pointer (some ⟨g2, 4, none⟩)) 11 rfl rfl (wn rfl) (fun W hW => r_field fld_28_2 rfl rfl) trivial ?_
   refine d1 13 8191 12 rfl (wn rfl) ?_
   refine e_store (vs := [.bool b0, .slice Ab m5.length cb]) (cs' := [.int .i64 kd, .int .i64 fd, .int .i64 s0, .int .u32 s1, .bool b0, .slice Ab m5.length cb, .int .i64 s3, .slice Aa m7.length ca]) S123 rfl rfl rfl rfl sz_26 1 rfl (.inl rfl) rfl rfl rfl ?_
   intro w125 S126 E127
   replace HRa := rx HRa E127 (S123.blk 1 rfl)
   replace HRb := rx HRb E127 (S123.blk 1 rfl)
   refine ⟨trivial, ?_⟩
   refine d_done (by kernel_rfl) ?_
   refine x_seq ?_
   refine s_seq ?_
   refine s_region ?_
   refine qv (v := .agg #[.int .i64 kd, .int .i64 fd, .int .i64 s0, .int .u32 s1, .bool b0, .slice Ab m5.length cb, .int .i64 s3, .slice Aa m7.length ca]) (r_loadN (vs := [.int .i64 kd, .int .i64 fd, .int .i64 s0, .int .u32 s1, .bool b0, .slice Ab m5.length cb, .int .i64 s3, .slice Aa m7.length ca]) sz_30 rfl (S126.blk 1 rfl) rfl rfl) ?_
   refine qo ?_
   refine e_store (vs := [.int .i64 kd, .int .i64 fd, .int .i64 s0, .int .u32 s1, .bool b0, .slice Ab m5.length cb, .int .i64 s3, .slice Aa m7.length ca]) (cs' := [.int .i64 kd, .int .i64 fd, .int .i64 s0, .int .u32 s1, .bool b0, .slice Ab m5.length cb, .int .i64 s3, .slice Aa m7.length ca]) S126 rfl rfl rfl rfl sz_30 0 rfl (.inl rfl) rfl rfl rfl ?_
   intro w128 S129 E130
   replace HRa := rx HRa E130 (S126.blk 0 rfl)
   replace HRb := rx HRb E130 (S126.blk 0 rfl)
   refine q_nil ?_
   refine x_seq ?_
   refine s_ret ?_
   refine t_retc (cs := [.int .i64 kd, .int .i64 fd, .int .i64 s0, .int .u32 s1, .bool b0, .slice Ab m5.length cb, .int .i64 s3, .slice Aa m7.length ca])  rfl rfl (S129.blk 0 rfl) sz_30 ?_
   rw [← hm5, ← hm7]
   exact ⟨_, _, rfl, Kd.R_lower HRb.out HBo, HRa.out, S129.ext.below⟩
  ·skip
   refine e_val (v := .slice A7 m7.length c7) rfl (r_load1 sz_24 rfl (S22.cell 1 rfl rfl)) ?_
   refine ⟨trivial, ?_⟩
   refine d1 13 119 0 rfl (wn rfl) ?_
   refine e_new (vf := fun g => .slice (some ⟨g, 0, none⟩) 0 0) (ob := .cells #[] 3) rfl S22 (r_buildSlice (ps := []) rfl (by kernel_rfl)) ?_
   intro g131 w132 hg131 S133 B134
   refine ⟨trivial, ?_⟩
   refine d1 13 127 3 rfl (wn rfl) ?_
   obtain ⟨v135, w135, hr135, HRa135, E135⟩ := append_row (c := c7) 24 (empty_row (base := w.heap.size) (S133.blk 0 rfl) (S133.own _ (List.mem_of_getElem? (i := 0) rfl) rfl)) (Kd.C_below hM7 S133.ext.below) (by first | (simp; done) | (simp; omega)) (S133.ext.size)
   rw [List.nil_append] at HRa135
   obtain ⟨Aa, ca, rfl⟩ := Kd.R_slice HRa135
   refine e_val (v := .slice Aa m7.length ca) rfl (r_append rfl rfl hr135) ?_
   obtain ⟨S135, F135⟩ := St_app S133 E135
   have HRa := Aside0.mk HRa135
   refine ⟨trivial, ?_⟩
   refine dt 13 383 (v := .pointer (some ⟨g2, 7, none⟩)) 8 rfl rfl (wn rfl) (fun W hW => r_field fld_30_3 rfl rfl) trivial ?_
   refine d1 13 511 7 rfl (wn rfl) ?_
   refine e_call (args := [.agg #[.bool b0, .slice A5 m5.length c5]]) Try.func38 (by kernel_rfl) rfl rfl ?_
   have hC5 := Kd.C_below hM5 S135.ext.below
   refine (Own_at b0 A5 c5 m5 m5.length rfl _ hC5 (by omega) (by omega)).mono ?_
   rintro e w136 ⟨v, rfl, ho, hb⟩
   obtain ⟨Ab, cb, rfl⟩ := Kd.R_slice ho
   refine ⟨_, rfl, ?_⟩
   have B137 := hb
   have S138 := S135.call B137
   replace HRa := rb HRa B137
   have HRb := Aside0.mk ho
   clear ho
   have HBo := S135.ext.size
   refine ⟨trivial, ?_⟩
   refine d1 13 1023 9 rfl (wn rfl) ?_
   refine e_store (vs := [.slice Aa m7.length ca]) (cs' := [.int .i64 kd, .int .i64 fd, .int .i64 s0, .int .u32 s1, .bool b0, .slice A5 m5.length c5, .int .i64 s3, .slice Aa m7.length ca]) S138 rfl rfl rfl rfl sz_24 1 rfl (.inl rfl) rfl rfl rfl ?_
   intro w139 S140 E141
   replace HRa := rx HRa E141 (S138.blk 1 rfl)
   replace HRb := rx HRb E141 (S138.blk 1 rfl)
   refine ⟨trivial, ?_⟩
   refine dt 13 2047 (v := .pointer (some ⟨g2, 2, none⟩)) 10 rfl rfl (wn rfl) (fun W hW => r_field fld_30_2 rfl rfl) trivial ?_
   refine dt 13 4095 (v := .pointer (some ⟨g2, 4, none⟩)) 11 rfl rfl (wn rfl) (fun W hW => r_field fld_28_2 rfl rfl) trivial ?_
   refine d1 13 8191 12 rfl (wn rfl) ?_
   refine e_store (vs := [.bool b0, .slice Ab m5.length cb]) (cs' := [.int .i64 kd, .int .i64 fd, .int .i64 s0, .int .u32 s1, .bool b0, .slice Ab m5.length cb, .int .i64 s3, .slice Aa m7.length ca]) S140 rfl rfl rfl rfl sz_26 1 rfl (.inl rfl) rfl rfl rfl ?_
   intro w142 S143 E144
   replace HRa := rx HRa E144 (S140.blk 1 rfl)
   replace HRb := rx HRb E144 (S140.blk 1 rfl)
   refine ⟨trivial, ?_⟩
   refine d_done (by kernel_rfl) ?_
   refine x_seq ?_
   refine s_seq ?_
   refine s_region ?_
   refine qv (v := .agg #[.int .i64 kd, .int .i64 fd, .int .i64 s0, .int .u32 s1, .bool b0, .slice Ab m5.length cb, .int .i64 s3, .slice Aa m7.length ca]) (r_loadN (vs := [.int .i64 kd, .int .i64 fd, .int .i64 s0, .int .u32 s1, .bool b0, .slice Ab m5.length cb, .int .i64 s3, .slice Aa m7.length ca]) sz_30 rfl (S143.blk 1 rfl) rfl rfl) ?_
   refine qo ?_
   refine e_store (vs := [.int .i64 kd, .int .i64 fd, .int .i64 s0, .int .u32 s1, .bool b0, .slice Ab m5.length cb, .int .i64 s3, .slice Aa m7.length ca]) (cs' := [.int .i64 kd, .int .i64 fd, .int .i64 s0, .int .u32 s1, .bool b0, .slice Ab m5.length cb, .int .i64 s3, .slice Aa m7.length ca]) S143 rfl rfl rfl rfl sz_30 0 rfl (.inl rfl) rfl rfl rfl ?_
   intro w145 S146 E147
   replace HRa := rx HRa E147 (S143.blk 0 rfl)
   replace HRb := rx HRb E147 (S143.blk 0 rfl)
   refine q_nil ?_
   refine x_seq ?_
   refine s_ret ?_
   refine t_retc (cs := [.int .i64 kd, .int .i64 fd, .int .i64 s0, .int .u32 s1, .bool b0, .slice Ab m5.length cb, .int .i64 s3, .slice Aa m7.length ca])  rfl rfl (S146.blk 0 rfl) sz_30 ?_
   rw [← hm5, ← hm7]
   exact ⟨_, _, rfl, Kd.R_lower HRb.out HBo, HRa.out, S146.ext.below⟩
end Go.Proofs.Ytilfalpfanaanaa.PA

namespace Go.Proofs.Ytilfalpfanaanaa.PA
open Go.RowKit Go.Proofs.YtilfalpfanaanaaW.PrintWords Go.Proofs.YtilfalpfanaanaaW.PrintLast Go.Proofs.YtilfalpfanaanaaW.PrintMore Go.Proofs.Ytilfalpfanaanaa.Sx
open Go.ChangeShapes Go.WideShapes Go.ChangeAt Go.Joins
set_option maxRecDepth 100000
theorem list5 {α : Type} {l : List α} (h : l.length = 5) : ∃ a b c d e, l = [a, b, c, d, e] := by
  match l, h with
  | [a, b, c, d, e], _ => exact ⟨a, b, c, d, e, rfl⟩
theorem list8 {α : Type} {l : List α} (h : l.length = 8) : ∃ a b c d e f g i, l = [a, b, c, d, e, f, g, i] := by
  match l, h with
  | [a, b, c, d, e, f, g, i], _ => exact ⟨a, b, c, d, e, f, g, i, rfl⟩
section
variable {H : Type} {enc : TypeId × Value → H} {W : World} {fuel : Nat} {cs : List Value} {x : DataW H × List MemPlace}
theorem trod_row (h : DataW.trod enc Try.prog W 0 (fun _ => true) true fuel 24 cs = some x) :
    ∃ a cap, ∃ l : List Int, cs = [.slice a l.length cap] ∧ Kd.C (Kd.int .i64) W a l.length l ∧ l.length ≤ cap ∧ ∀ z ∈ l, (Lit.int .i64 z).wf = true := by
  have key : ∃ a len cap zs, cs = [.slice a len cap] ∧ ((a = none ∧ len = 0 ∧ cap = 0 ∧ zs = []) ∨ ∃ x, a = some x ∧ len ≤ cap ∧ cap ≤ maxLen ∧ zs.length = cap ∧ (∀ i, i < zs.length → W.cell? (x.add i) = some (.int .i64 (zs.getD i 0))) ∧ ∀ n ∈ zs, (Lit.int .i64 n).wf = true) := by
    rcases open_ints Try.underlying24 Try.underlying3 (by kernel_rfl) h with ⟨hcs, _⟩ | ⟨x, l, c, zs, hcs, _, hl, hm, hz, _, hcell, hwz⟩
    · exact ⟨none, 0, 0, [], hcs, .inl ⟨rfl, rfl, rfl, rfl⟩⟩
    · exact ⟨some x, l, c, zs, hcs, .inr ⟨_, rfl, hl, hm, by simpa using hz, hcell, hwz⟩⟩
  obtain ⟨a, len, cap, zs, hcs, hr⟩ := key
  obtain ⟨l, rfl, h1, h2, h3, h4⟩ := ReadsInt.ofRowC hr
  exact ⟨a, cap, l, hcs, Kd.C_of_reads (d := (0 : Int)) (h1 := fun _ => rfl) h1, h4, h3⟩
theorem trod_slot (h : DataW.trod enc Try.prog W 0 (fun _ => true) true fuel 28 cs = some x) :
    ∃ (s : Slot) (a : Option Addr) (cap : Nat), cs = [.int .i64 s.f0, .int .u32 s.f1, .bool s.f2.f0, .slice a s.f2.f1.length cap, .int .i64 s.f3] ∧ Kd.C (Kd.int .i64) W a s.f2.f1.length s.f2.f1 ∧ s.f2.f1.length ≤ cap ∧
      (Lit.int .i64 s.f0).wf = true ∧ (Lit.int .u32 s.f1).wf = true ∧ (Lit.int .i64 s.f3).wf = true := by
  obtain ⟨y0, y1, y2, y3, n, _, hl, h0, h1, h2, h3⟩ := trod_struct4 Try.underlying28 h
  have hl : cs.length = 5 := hl.trans (by kernel_rfl)
  obtain ⟨c0, c1, c2, c3, c4, rfl⟩ := list5 hl
  have h0 : DataW.trod enc Try.prog W 0 (fun _ => true) true n 3 [c0] = some y0 := h0
  have h1 : DataW.trod enc Try.prog W 0 (fun _ => true) true n 23 [c1] = some y1 := h1
  have h2 : DataW.trod enc Try.prog W 0 (fun _ => true) true n 26 [c2, c3] = some y2 := h2
  have h3 : DataW.trod enc Try.prog W 0 (fun _ => true) true n 3 [c4] = some y3 := h3
  obtain ⟨f0, e0, _, w0⟩ := DataW.trod_int Try.underlying3 h0
  obtain ⟨f1, e1, _, w1⟩ := DataW.trod_int Try.underlying23 h1
  obtain ⟨f3, e3, _, w3⟩ := DataW.trod_int Try.underlying3 h3
  obtain ⟨z0, z1, m, _, _, g0, g1⟩ := trod_struct2 Try.underlying26 h2
  have g0 : DataW.trod enc Try.prog W 0 (fun _ => true) true m 4 [c2] = some z0 := g0
  have g1 : DataW.trod enc Try.prog W 0 (fun _ => true) true m 24 [c3] = some z1 := g1
  obtain ⟨b, e2, _⟩ := DataW.trod_bool Try.underlying4 g0
  obtain ⟨a, cap, l, el, hC, hcap, _⟩ := trod_row g1
  obtain rfl : c0 = .int .i64 f0 := by simpa using e0
  obtain rfl : c1 = .int .u32 f1 := by simpa using e1
  obtain rfl : c2 = .bool b := by simpa using e2
  obtain rfl : c3 = .slice a l.length cap := by simpa using el
  obtain rfl : c4 = .int .i64 f3 := by simpa using e3
  exact ⟨⟨f0, f1, ⟨b, l⟩, f3⟩, a, cap, rfl, hC, hcap, w0, w1, w3⟩
structure ActV where
  kd : Int
  fd : Int
  s0 : Int
  s1 : Int
  b0 : Bool
  l5 : List Int
  s3 : Int
  l7 : List Int
def ActV.cells (x : ActV) (A5 : Option Addr) (c5 : Nat) (A7 : Option Addr) (c7 : Nat) : List Value := [.int .i64 x.kd, .int .i64 x.fd, .int .i64 x.s0, .int .u32 x.s1, .bool x.b0, .slice A5 x.l5.length c5, .int .i64 x.s3, .slice A7 x.l7.length c7]
structure ActAt (W : World) (x : ActV) (A5 : Option Addr) (c5 : Nat) (A7 : Option Addr) (c7 : Nat) : Prop where
  r5 : Kd.C (Kd.int .i64) W A5 x.l5.length x.l5
  k5 : x.l5.length ≤ c5
  r7 : Kd.C (Kd.int .i64) W A7 x.l7.length x.l7
  k7 : x.l7.length ≤ c7
  wfd : (Lit.int .i64 x.fd).wf = true
  w0 : (Lit.int .i64 x.s0).wf = true
  w1 : (Lit.int .u32 x.s1).wf = true
  w3 : (Lit.int .i64 x.s3).wf = true
  wkd : (Lit.int .i64 x.kd).wf = true
theorem trod_act (h : DataW.trod enc Try.prog W 0 (fun _ => true) true fuel 30 cs = some x) : ∃ v A5 c5 A7 c7, cs = ActV.cells v A5 c5 A7 c7 ∧ ActAt W v A5 c5 A7 c7 := by
  obtain ⟨y0, y1, y2, y3, n, _, hl, h0, h1, h2, h3⟩ := trod_struct4 Try.underlying30 h
  have hl : cs.length = 8 := hl.trans (by kernel_rfl)
  obtain ⟨c0, c1, c2, c3, c4, c5, c6, c7, rfl⟩ := list8 hl
  have h0 : DataW.trod enc Try.prog W 0 (fun _ => true) true n 3 [c0] = some y0 := h0
  have h1 : DataW.trod enc Try.prog W 0 (fun _ => true) true n 3 [c1] = some y1 := h1
  have h2 : DataW.trod enc Try.prog W 0 (fun _ => true) true n 28 [c2, c3, c4, c5, c6] = some y2 := h2
  have h3 : DataW.trod enc Try.prog W 0 (fun _ => true) true n 24 [c7] = some y3 := h3
  obtain ⟨kd, e0, _, w0⟩ := DataW.trod_int Try.underlying3 h0
  obtain ⟨fd, e1, _, w1⟩ := DataW.trod_int Try.underlying3 h1
  obtain ⟨s, a, cap, e2, hC, hcap, v0, v1, v3⟩ := trod_slot h2
  obtain ⟨a', cap', l, el, hC', hcap', _⟩ := trod_row h3
  obtain rfl : c0 = .int .i64 kd := by simpa using e0
  obtain rfl : c1 = .int .i64 fd := by simpa using e1
  obtain rfl : c7 = .slice a' l.length cap' := by simpa using el
  injection e2 with e2 e3; injection e3 with e3 e4; injection e4 with e4 e5; injection e5 with e5 e6; injection e6 with e6 e7
  subst e2 e3 e4 e5 e6
  exact ⟨⟨kd, fd, s.f0, s.f1, s.f2.f0, s.f2.f1, s.f3, l⟩, a, cap, a', cap', rfl, hC, hcap, hC', hcap', w1, v0, v1, v3, w0⟩
end
theorem u32_nonneg {a : Int} (h : (Lit.int .u32 a).wf = true) : 0 ≤ a := by
  have hm : IntKind.u32.min = 0 := by kernel_rfl
  simp [Lit.wf] at h
  omega
end Go.Proofs.Ytilfalpfanaanaa.PA

namespace Go.Proofs.Ytilfalpfanaanaa.PA
open Go.RowKit Go.Proofs.YtilfalpfanaanaaW.PrintWords Go.Proofs.YtilfalpfanaanaaW.PrintLast Go.Proofs.YtilfalpfanaanaaW.PrintMore Go.Proofs.Ytilfalpfanaanaa.Sx
section
variable {w w' : World} {b g p : Nat} {ok ok2 : Nat → Prop} {qs qs2 : List (Option Nat)} {ss ss2 : List (Option Slot)} {P P2 : Nat → Prop} {ad ad2 : Addr} {c c2 : Nat}
theorem TabAt.bound (h : TabAt w b ok g p qs ss) : TabAt w b (fun k => ok k ∧ k < w.heap.size) g p qs ss :=
  { h with
    low := ⟨h.low.1, h.low.2.1, ⟨h.low.2.2.1, blk_lt h.tab⟩, ⟨h.low.2.2.2, blk_lt h.row⟩⟩
    som := fun i q hq => by
      obtain ⟨h1, h2, s, h3, A, c, h5, h6⟩ := h.som i q hq
      exact ⟨h1, ⟨h2, blk_lt h5⟩, s, h3, A, c, h5, Kd.R_mono (Kd.R_bound h6) (fun k hk => ⟨hk.1, hk.2.2.1⟩)⟩ }
structure DInv (w : World) (b g p : Nat) (ok : Nat → Prop) (qs : List (Option Nat)) (ss : List (Option Slot)) (P : Nat → Prop) (ad : Addr) (c : Nat) : Prop where
  T : TabAt w b ok g p qs ss
  L : LV w P ad c (ls ss)
  D : ∀ k, ok k → P k → False
  okN : ∀ k, ok k → k < w.heap.size
  PN : ∀ k, P k → k < w.heap.size
  G : Good ss
def Post (w : World) (b g p : Nat) (ok : Nat → Prop) (n : Nat) (P : Nat → Prop) (e : Ending) (w' : World) : Prop :=
  ∃ qs' ss' ok' P' ad' c', e = .returned (.tuple #[.slice (some ad') (ls ss').length c', .bool true]) ∧ DInv w' b g p ok' qs' ss' P' ad' c' ∧ Ext ok w w' ∧ ss'.length = n ∧ (∀ k, ok' k → ok k ∨ w.heap.size ≤ k) ∧ (∀ k, P' k → P k ∨ w.heap.size ≤ k)
theorem DInv.few (h : DInv w b g p ok qs ss P ad c) : 1 ≤ ss.length ∧ ss.length ≤ 64 := by rw [h.T.len]; exact h.T.few
theorem DInv.step (h : DInv w b g p ok qs ss P ad c) (hb : Below w.heap.size w w') : DInv w' b g p ok qs ss P ad c :=
  ⟨h.T.below hb, Kd.V_below h.L hb, h.D, fun k hk => Nat.lt_of_lt_of_le (h.okN k hk) hb.size, fun k hk => Nat.lt_of_lt_of_le (h.PN k hk) hb.size, h.G⟩
theorem post_same (h : DInv w b g p ok qs ss P ad c) (E : Ext ok w w') (T : TabAt w' b ok g p qs ss) (L : LV w' P ad c (ls ss)) : Post w b g p ok ss.length P (.returned (.tuple #[.slice (some ad) (ls ss).length c, .bool true])) w' :=
  ⟨qs, ss, ok, P, ad, c, rfl, ⟨T, L, h.D, fun k hk => Nat.lt_of_lt_of_le (h.okN k hk) E.size, fun k hk => Nat.lt_of_lt_of_le (h.PN k hk) E.size, h.G⟩, E, rfl, fun k hk => .inl hk, fun k hk => .inl hk⟩
theorem post_new (h : DInv w b g p ok qs ss P ad c) (E : Ext ok w w') (T : TabAt w' b ok2 g p qs2 ss2) (L : LV w' P2 ad2 c2 (ls ss2)) (hlen : ss2.length = ss.length) (hG : Good ss2) (a1 a2 : Nat) (h1 : w.heap.size ≤ a1) (h2 : a1 ≤ a2)
    (hok : ∀ k, ok2 k → k < w'.heap.size → ok k ∨ (a1 ≤ k ∧ k < a2)) (hP : ∀ k, P2 k → k < w'.heap.size → P k ∨ (w.heap.size ≤ k ∧ k < a1) ∨ a2 ≤ k) : Post w b g p ok ss.length P (.returned (.tuple #[.slice (some ad2) (ls ss2).length c2, .bool true])) w' :=
  ⟨qs2, ss2, _, _, ad2, c2, rfl, ⟨T.bound, Kd.V_bound L, fun k h3 h4 => by
    rcases hok k h3.1 h3.2 with h5 | h5
    · have := h.okN k h5
      rcases hP k h4.1 h4.2 with h6 | h6
      · exact h.D k h5 h6
      · omega
    · rcases hP k h4.1 h4.2 with h6 | h6
      · have := h.PN k h6; omega
      · omega, fun k hk => hk.2, fun k hk => hk.2, hG⟩, E, hlen, fun k hk => (hok k hk.1 hk.2).elim .inl (fun h => .inr (by omega)), fun k hk => (hP k hk.1 hk.2).elim .inl (fun h => .inr (by omega))⟩
theorem tab_no (T : TabAt w b ok g p qs ss) {fd : Int} (h : ∀ s, 0 ≤ fd → ss[fd.toNat]? ≠ some (some s)) : ∀ q, 0 ≤ fd → qs[fd.toNat]? ≠ some (some q) := fun q h0 hs => by
  obtain ⟨_, _, s, h1, _⟩ := T.som _ _ hs; exact h s h0 h1
theorem tab_yes (T : TabAt w b ok g p qs ss) {i : Nat} {s : Slot} (h : ss[i]? = some (some s)) : ∃ q, qs[i]? = some (some q) := by
  have hlt : i < qs.length := by have := get_lt h; rw [T.len] at this; exact this
  cases e : qs[i] with
  | some q => exact ⟨q, by rw [List.getElem?_eq_getElem hlt, e]⟩
  | none => have := T.non i (by rw [List.getElem?_eq_getElem hlt, e]); rw [this] at h; cases h
theorem tab_none (T : TabAt w b ok g p qs ss) {i : Nat} (h : ss[i]? = some none) : qs[i]? = some none := by
  have hlt : i < qs.length := by have := get_lt h; rw [T.len] at this; exact this
  cases e : qs[i] with
  | none => rw [List.getElem?_eq_getElem hlt, e]
  | some q =>
    obtain ⟨_, _, s, h1, _⟩ := T.som i q (by rw [List.getElem?_eq_getElem hlt, e])
    rw [h] at h1; cases h1
theorem LV_ne {T : TypeId} {qs' : List (Option Nat)} (h : LV w P ad c (ls ss)) (hl : 0 < ss.length) (hp : w.heap[p]? = some (.cells (qs'.map ptrV).toArray T (0, 0))) : ad.block ≠ p := by
  intro e
  obtain ⟨x, hx⟩ : ∃ x, ss[(0 : Int).toNat]? = some x := ⟨ss[0], List.getElem?_eq_getElem hl⟩
  obtain ⟨A3, c3, hc, _⟩ := LV_at h (Int.le_refl 0) hx
  have h0 := hc 0 _ rfl
  subst e
  have hb : (ad.add ((0 : Int).toNat * 5 + 0)).block = ad.block := Sx.add_block _ _
  unfold World.cell? at h0
  rw [hb, hp] at h0
  dsimp only at h0
  split at h0
  · cases h0
  · rw [List.getElem?_toArray, List.getElem?_map] at h0
    cases e2 : qs'[(ad.add ((0 : Int).toNat * 5 + 0)).off]? with
    | none => rw [e2] at h0; cases h0
    | some y => rw [e2] at h0; cases y <;> cases h0
end
theorem cut50_len (l : List Int) : (cut50 l).length ≤ 50 := by unfold cut50; split <;> first | omega | (rw [List.length_take]; omega)
theorem cut50_same {l : List Int} (h : l.length ≤ 50) : cut50 l = l := by unfold cut50; rw [if_neg (by omega)]
theorem own_cut (kd fd s0 s1 : Int) (b0 : Bool) (A5 : Option Addr) (c5 : Nat) (l5 : List Int) (s3 : Int) (A7 : Option Addr) (c7 : Nat) (l7 : List Int) (w : World) (hr5 : Kd.C (Kd.int .i64) w A5 l5.length l5) (hc5 : l5.length ≤ c5) (hr7 : Kd.C (Kd.int .i64) w A7 l7.length l7) (hc7 : l7.length ≤ c7) :
    Calls Try.prog 13 #[.agg #[.int .i64 kd, .int .i64 fd, .int .i64 s0, .int .u32 s1, .bool b0, .slice A5 l5.length c5, .int .i64 s3, .slice A7 l7.length c7]] w fun e w' => ∃ m5 m7 B5 d5 B7 d7, (m5 = cut50 l5 ∧ m7 = cut50 l7) ∧ m5.length ≤ 50 ∧ m7.length ≤ 50 ∧ e = .returned (.agg #[.int .i64 kd, .int .i64 fd, .int .i64 s0, .int .u32 s1, .bool b0, .slice B5 (m5 : List Int).length d5, .int .i64 s3, .slice B7 (m7 : List Int).length d7]) ∧ Kd.R (Kd.int .i64) 3 w' w.heap.size (fun _ => True) (.slice B5 m5.length d5) m5 ∧ Kd.R (Kd.int .i64) 3 w' w.heap.size (fun _ => True) (.slice B7 m7.length d7) m7 ∧ Below w.heap.size w w' := by
  refine (own_calls kd fd s0 s1 b0 A5 c5 l5 s3 A7 c7 l7 w hr5 hc5 hr7 hc7).mono ?_
  rintro e w' ⟨v5, v7, rfl, h5, h7, hb⟩
  obtain ⟨B5, d5, rfl⟩ := Kd.R_slice h5
  obtain ⟨B7, d7, rfl⟩ := Kd.R_slice h7
  exact ⟨cut50 l5, cut50 l7, B5, d5, B7, d7, ⟨rfl, rfl⟩, cut50_len _, cut50_len _, rfl, h5, h7, hb⟩
theorem own_same (kd fd s0 s1 : Int) (b0 : Bool) (A5 : Option Addr) (c5 : Nat) (l5 : List Int) (s3 : Int) (A7 : Option Addr) (c7 : Nat) (l7 : List Int) (w : World) (hr5 : Kd.C (Kd.int .i64) w A5 l5.length l5) (hc5 : l5.length ≤ c5) (hr7 : Kd.C (Kd.int .i64) w A7 l7.length l7) (hc7 : l7.length ≤ c7) (h5 : l5.length ≤ 50) (h7 : l7.length ≤ 50) :
    Calls Try.prog 13 #[.agg #[.int .i64 kd, .int .i64 fd, .int .i64 s0, .int .u32 s1, .bool b0, .slice A5 l5.length c5, .int .i64 s3, .slice A7 l7.length c7]] w fun e w' => ∃ B5 d5 B7 d7, e = .returned (.agg #[.int .i64 kd, .int .i64 fd, .int .i64 s0, .int .u32 s1, .bool b0, .slice B5 l5.length d5, .int .i64 s3, .slice B7 l7.length d7]) ∧ Kd.R (Kd.int .i64) 3 w' w.heap.size (fun _ => True) (.slice B5 l5.length d5) l5 ∧ Kd.R (Kd.int .i64) 3 w' w.heap.size (fun _ => True) (.slice B7 l7.length d7) l7 ∧ Below w.heap.size w w' := by
  refine (own_calls kd fd s0 s1 b0 A5 c5 l5 s3 A7 c7 l7 w hr5 hc5 hr7 hc7).mono ?_
  rintro e w' ⟨v5, v7, rfl, g5, g7, hb⟩
  rw [cut50_same h5] at g5; rw [cut50_same h7] at g7
  obtain ⟨B5, d5, rfl⟩ := Kd.R_slice g5
  obtain ⟨B7, d7, rfl⟩ := Kd.R_slice g7
  exact ⟨B5, d5, B7, d7, rfl, g5, g7, hb⟩
theorem RLimit_ok {w : World} {P : Nat → Prop} {ad : Addr} {c : Nat} {ss : List (Option Slot)} (hL : LV w P ad c (ls ss)) (hPN : ∀ k, P k → k < w.heap.size) (fd : Int) (hl : ss.length ≤ 64) (h0 : 0 ≤ fd) {s : Slot} (hs : ss[fd.toNat]? = some (some s)) (r : Int) (hr0 : 0 ≤ r) (hG : purlieuref13_Get.f 40 (ls ss) fd r = some 0) :
    Calls Try.prog 45 #[.slice (some ad) (ls ss).length c, .int .i64 fd, .int .u32 r] w fun e' w' => ∃ ad' c', e' = .returned (.tuple #[.slice (some ad') (ls (ss.set fd.toNat (some (limS s r)))).length c', .int .i64 0]) ∧ LV w' (fun k => (P k ∨ w.heap.size ≤ k)) ad' c' (ls (ss.set fd.toNat (some (limS s r)))) ∧ Below w.heap.size w w' := by
  unfold limS
  by_cases h28 : Go.bits .and .u32 r 268435456 = 0 <;> by_cases h9 : Go.bits .and .u32 r 512 = 0
  · rw [if_pos h28, if_pos h9]; exact RLimit_ff hL hPN fd hl h0 hs r hr0 hG h28 h9
  · rw [if_pos h28, if_neg h9]; exact RLimit_ft hL hPN fd hl h0 hs r hr0 hG h28 h9
  · rw [if_neg h28, if_pos h9]; exact RLimit_tf hL hPN fd hl h0 hs r hr0 hG h28 h9
  · rw [if_neg h28, if_neg h9]; exact RLimit_tt hL hPN fd hl h0 hs r hr0 hG h28 h9
theorem good_lim {s : Slot} {r : Int} (h : GoodS s) (hr : 0 ≤ r) : GoodS (limS s r) := ⟨h.pos, hr, by unfold limS; dsimp only; split <;> first | exact h.len | simp⟩
theorem good_can {s : Slot} (h : canS s = true) (h1 : 0 ≤ s.f1) (hl : s.f2.f1.length ≤ 50) : GoodS s := ⟨(canS_parts h).1, h1, by omega⟩
end Go.Proofs.Ytilfalpfanaanaa.PA

namespace Go.Proofs.Ytilfalpfanaanaa.PA
open Go.RowKit Go.Proofs.YtilfalpfanaanaaW.PrintWords Go.Proofs.YtilfalpfanaanaaW.PrintLast Go.Proofs.YtilfalpfanaanaaW.PrintMore Go.Proofs.Ytilfalpfanaanaa.Sx
set_option maxHeartbeats 8000000 in
set_option maxRecDepth 100000 in
theorem Does_set_bad {w : World} {b g p : Nat} {ok : Nat → Prop} {qs : List (Option Nat)} {ss : List (Option Slot)} {P : Nat → Prop} {ad : Addr} {c : Nat} (hI : DInv w b g p ok qs ss P ad c) (kd fd s0 s1 : Int) (b0 : Bool) (A5 : Option Addr) (c5 : Nat) (l5 : List Int) (s3 : Int) (A7 : Option Addr) (c7 : Nat) (l7 : List Int) (hr5 : Kd.C (Kd.int .i64) w A5 l5.length l5) (hc5 : l5.length ≤ c5) (hr7 : Kd.C (Kd.int .i64) w A7 l7.length l7) (hc7 : l7.length ≤ c7) (hk : kd = 1) (hcan : canS (⟨s0, s1, ⟨b0, cut50 l5⟩, s3⟩ : Slot) = false) : Calls Try.prog 19 #[.pointer (some ⟨g, 0, none⟩), .slice (some ad) ((ls ss).length) c, .agg #[.int .i64 kd, .int .i64 fd, .int .i64 s0, .int .u32 s1, .bool b0, .slice A5 l5.length c5, .int .i64 s3, .slice A7 l7.length c7]] w (Post w b g p ok ss.length P) := by
 have HT := Aside0.mk hI.T
 have HL := Aside0.mk hI.L
 have hll := ls_len ss
 have hfew := hI.few
 have hqs := hI.T.len
 refine s_enter (n := 233) (L := [(0, .pointer (some ⟨g, 0, none⟩)), (1, .slice (some ad) ((ls ss).length) c), (2, .agg #[.int .i64 kd, .int .i64 fd, .int .i64 s0, .int .u32 s1, .bool b0, .slice A5 l5.length c5, .int .i64 s3, .slice A7 l7.length c7])]) Try.func19 rfl rfl rfl rfl ?_
 have S1 := St.start w (ok)
 refine s_seq ?_
 refine s_region ?_
 refine qo ?_
 refine e_box (cs := [.int .i64 kd, .int .i64 fd, .int .i64 s0, .int .u32 s1, .bool b0, .slice A5 l5.length c5, .int .i64 s3, .slice A7 l7.length c7]) S1 rfl rfl ?_
 intro g2 w3 hg2 S4 B5
 replace HT := tb HT B5
 replace HL := vb HL B5
 refine qv (v := .slice none 0 0) (r_assign rfl) ?_
 refine qv (v := .bool false) (r_assign rfl) ?_
 refine q_nil ?_
 refine x_seq ?_
 refine s_seq ?_
 refine s_region ?_
 refine qv (v := .agg #[.int .i64 kd, .int .i64 fd, .int .i64 s0, .int .u32 s1, .bool b0, .slice A5 l5.length c5, .int .i64 s3, .slice A7 l7.length c7]) (r_loadN (vs := [.int .i64 kd, .int .i64 fd, .int .i64 s0, .int .u32 s1, .bool b0, .slice A5 l5.length c5, .int .i64 s3, .slice A7 l7.length c7]) sz_30 rfl (S4.blk 0 rfl) rfl rfl) ?_
 refine qo ?_
 refine e_call (args := [.agg #[.int .i64 kd, .int .i64 fd, .int .i64 s0, .int .u32 s1, .bool b0, .slice A5 l5.length c5, .int .i64 s3, .slice A7 l7.length c7]]) Try.func13 (by kernel_rfl) rfl rfl ?_
 refine (own_cut kd fd s0 s1 b0 A5 c5 l5 s3 A7 c7 l7 _ (Kd.C_below hr5 B5) hc5 (Kd.C_below hr7 B5) hc7).mono ?_
 rintro e w6 ⟨m5, m7, Ba5, da5, Ba7, da7, ⟨hm5, hm7⟩, hl5, hl7, rfl, ho5, ho7, hb⟩
 refine ⟨_, rfl, ?_⟩
 have B7 := hb
 have S8 := S4.call B7
 replace HT := tb HT B7
 replace HL := vb HL B7
 have HA5 := Aside0.mk ho5
 have HA7 := Aside0.mk ho7
 clear ho5 ho7
 have HBa := S4.ext.size
 rw [← hm5] at hcan
 refine qo ?_
 refine e_store (vs := [.int .i64 kd, .int .i64 fd, .int .i64 s0, .int .u32 s1, .bool b0, .slice Ba5 m5.length da5, .int .i64 s3, .slice Ba7 m7.length da7]) (cs' := [.int .i64 kd, .int .i64 fd, .int .i64 s0, .int .u32 s1, .bool b0, .slice Ba5 m5.length da5, .int .i64 s3, .slice Ba7 m7.length da7]) S8 rfl rfl rfl rfl sz_30 0 rfl (.inl rfl) rfl rfl rfl ?_
 intro w9 S10 E11
 replace HA5 := rx HA5 E11 (S8.blk 0 rfl)
 replace HA7 := rx HA7 E11 (S8.blk 0 rfl)
 replace HT := Aside0.mk (HT.out.move (fun k_ hk_ hl_ => E11.block k_ hl_ (fun e_ => by have o_ := S8.own _ (List.mem_of_getElem? (i := 0) rfl) rfl; try dsimp only at o_ e_; have b_ := hI.okN k_ hk_; omega)))
 replace HL := Aside0.mk (Kd.V_step HL.out (fun k_ hk_ hl_ => E11.block k_ hl_ (fun e_ => by have o_ := S8.own _ (List.mem_of_getElem? (i := 0) rfl) rfl; try dsimp only at o_ e_; have b_ := hI.PN k_ hk_; omega)))
 refine q_nil ?_
 refine x_seq ?_
 refine s_seq ?_
 refine s_region ?_
 refine qv (v := .agg #[.int .i64 kd, .int .i64 fd, .int .i64 s0, .int .u32 s1, .bool b0, .slice Ba5 m5.length da5, .int .i64 s3, .slice Ba7 m7.length da7]) (r_loadN (vs := [.int .i64 kd, .int .i64 fd, .int .i64 s0, .int .u32 s1, .bool b0, .slice Ba5 m5.length da5, .int .i64 s3, .slice Ba7 m7.length da7]) sz_30 rfl (S10.blk 0 rfl) rfl rfl) ?_
 refine qo ?_
 refine e_call (args := [.agg #[.int .i64 kd, .int .i64 fd, .int .i64 s0, .int .u32 s1, .bool b0, .slice Ba5 m5.length da5, .int .i64 s3, .slice Ba7 m7.length da7]]) Try.func13 (by kernel_rfl) rfl rfl ?_
 refine (own_same kd fd s0 s1 b0 Ba5 da5 m5 s3 Ba7 da7 m7 _ (R_C HA5.out).2 (R_C HA5.out).1 (R_C HA7.out).2 (R_C HA7.out).1 hl5 hl7).mono ?_
 rintro e w12 ⟨Be5, de5, Be7, de7, rfl, ho5, ho7, hb⟩
 refine ⟨_, rfl, ?_⟩
 have B13 := hb
 have S14 := S10.call B13
 replace HA5 := rb HA5 B13
 replace HA7 := rb HA7 B13
 replace HT := tb HT B13
 replace HL := vb HL B13
 have HE5 := Aside0.mk ho5
 have HE7 := Aside0.mk ho7
 clear ho5 ho7
 refine qo ?_
 refine e_alloc S14 zro_30 ?_
 intro g15 w16 hg15 S17 B18
 replace HA5 := rb HA5 B18
 replace HA7 := rb HA7 B18
 replace HE5 := rb HE5 B18
 replace HE7 := rb HE7 B18
 replace HT := tb HT B18
 replace HL := vb HL B18
 refine qo ?_
 refine e_store (vs := [.int .i64 kd, .int .i64 fd, .int .i64 s0, .int .u32 s1, .bool b0, .slice Be5 m5.length de5, .int .i64 s3, .slice Be7 m7.length de7]) (cs' := [.int .i64 kd, .int .i64 fd, .int .i64 s0, .int .u32 s1, .bool b0, .slice Be5 m5.length de5, .int .i64 s3, .slice Be7 m7.length de7]) S17 rfl rfl rfl rfl sz_30 0 rfl (.inl rfl) rfl rfl rfl ?_
 intro w19 S20 E21
 replace HA5 := rx HA5 E21 (S17.blk 0 rfl)
 replace HA7 := rx HA7 E21 (S17.blk 0 rfl)
 replace HE5 := rx HE5 E21 (S17.blk 0 rfl)
 replace HE7 := rx HE7 E21 (S17.blk 0 rfl)
 replace HT := Aside0.mk (HT.out.move (fun k_ hk_ hl_ => E21.block k_ hl_ (fun e_ => by have o_ := S17.own _ (List.mem_of_getElem? (i := 0) rfl) rfl; try dsimp only at o_ e_; have b_ := hI.okN k_ hk_; omega)))
 replace HL := Aside0.mk (Kd.V_step HL.out (fun k_ hk_ hl_ => E21.block k_ hl_ (fun e_ => by have o_ := S17.own _ (List.mem_of_getElem? (i := 0) rfl) rfl; try dsimp only at o_ e_; have b_ := hI.PN k_ hk_; omega)))
 refine q_nil ?_
 refine x_seq ?_
 refine s_seq ?_
 refine s_seq ?_
 refine s_region ?_
 refine qv (v := .pointer (some ⟨g2, 0, none⟩)) (r_field fld_30_0 rfl rfl) ?_
 refine qv (v := .int .i64 kd) (r_load1 sz_3 rfl (S20.cell 1 rfl rfl)) ?_
 refine q_nil ?_
 refine x_seq ?_
 refine s_block ?_
 refine s_seq ?_
 refine s_region ?_
 refine qv (v := .bool true) (r_eql rfl rfl (beq_t (by omega))) ?_
 refine qv (v := .bool true) (r_assign rfl) ?_
 refine q_nil ?_
 refine x_seq ?_
 refine s_true rfl ?_
 refine s_seq ?_
 refine s_region ?_
 refine qv (v := .pointer (some ⟨g, 0, none⟩)) (r_move rfl) ?_
 refine qv (v := .pointer (some ⟨g15, 1, none⟩)) (r_field fld_30_1 rfl rfl) ?_
 refine qv (v := .int .i64 fd) (r_load1 sz_3 rfl (S20.cell 0 rfl rfl)) ?_
 refine qv (v := .pointer (some ⟨g15, 2, none⟩)) (r_field fld_30_2 rfl rfl) ?_
 refine qv (v := .agg #[.int .i64 s0, .int .u32 s1, .bool b0, .slice Be5 m5.length de5, .int .i64 s3]) (r_loadN (vs := [.int .i64 s0, .int .u32 s1, .bool b0, .slice Be5 m5.length de5, .int .i64 s3]) sz_28 rfl (S20.blk 0 rfl) rfl rfl) ?_
 refine qo ?_
 refine e_call (args := [.pointer (some ⟨g, 0, none⟩), .int .i64 fd, .agg #[.int .i64 s0, .int .u32 s1, .bool b0, .slice Be5 m5.length de5, .int .i64 s3]]) Try.func29 (by kernel_rfl) rfl rfl ?_
 refine (Set_bad g fd (⟨s0, s1, ⟨b0, m5⟩, s3⟩ : Slot) Be5 de5 (R_C HE5.out).2 (R_C HE5.out).1 200 (by rw [wcanS (⟨s0, s1, ⟨b0, m5⟩, s3⟩ : Slot) hl5, hcan])).mono ?_
 rintro e w22 ⟨rfl, hb⟩
 refine ⟨_, rfl, ?_⟩
 have B23 := hb
 have S24 := S20.call B23
 replace HA5 := rb HA5 B23
 replace HA7 := rb HA7 B23
 replace HE5 := rb HE5 B23
 replace HE7 := rb HE7 B23
 replace HT := tb HT B23
 replace HL := vb HL B23
 refine qv (v := .tuple #[.agg #[.int .i64 0, .int .u32 0, .bool false, .slice none 0 0, .int .i64 0], .bool false, .int .i64 22]) (r_move rfl) ?_
 refine qv (v := .agg #[.int .i64 0, .int .u32 0, .bool false, .slice none 0 0, .int .i64 0]) (r_extract rfl rfl) ?_
 refine qv (v := .bool false) (r_extract rfl rfl) ?_
 refine qv (v := .int .i64 22) (r_extract rfl rfl) ?_
 refine qo ?_
 refine e_alloc S24 zro_28 ?_
 intro g25 w26 hg25 S27 B28
 replace HA5 := rb HA5 B28
 replace HA7 := rb HA7 B28
 replace HE5 := rb HE5 B28
 replace HE7 := rb HE7 B28
 replace HT := tb HT B28
 replace HL := vb HL B28
 refine qo ?_
 refine e_store (vs := [.int .i64 0, .int .u32 0, .bool false, .slice none 0 0, .int .i64 0]) (cs' := [.int .i64 0, .int .u32 0, .bool false, .slice none 0 0, .int .i64 0]) S27 rfl rfl rfl rfl sz_28 0 rfl (.inl rfl) rfl rfl rfl ?_
 intro w29 S30 E31
 replace HA5 := rx HA5 E31 (S27.blk 0 rfl)
 replace HA7 := rx HA7 E31 (S27.blk 0 rfl)
 replace HE5 := rx HE5 E31 (S27.blk 0 rfl)
 replace HE7 := rx HE7 E31 (S27.blk 0 rfl)
 replace HT := Aside0.mk (HT.out.move (fun k_ hk_ hl_ => E31.block k_ hl_ (fun e_ => by have o_ := S27.own _ (List.mem_of_getElem? (i := 0) rfl) rfl; try dsimp only at o_ e_; have b_ := hI.okN k_ hk_; omega)))
 replace HL := Aside0.mk (Kd.V_step HL.out (fun k_ hk_ hl_ => E31.block k_ hl_ (fun e_ => by have o_ := S27.own _ (List.mem_of_getElem? (i := 0) rfl) rfl; try dsimp only at o_ e_; have b_ := hI.PN k_ hk_; omega)))
 refine qv (v := .bool false) (r_assign rfl) ?_
 refine qv (v := .int .i64 22) (r_assign rfl) ?_
 refine q_nil ?_
 refine x_seq ?_
 refine s_seq ?_
 refine s_seq ?_
 refine s_region ?_
 refine qv (v := .pointer (some ⟨g2, 2, none⟩)) (r_field fld_30_2 rfl rfl) ?_
 refine qv (v := .agg #[.int .i64 s0, .int .u32 s1, .bool b0, .slice Ba5 m5.length da5, .int .i64 s3]) (r_loadN (vs := [.int .i64 s0, .int .u32 s1, .bool b0, .slice Ba5 m5.length da5, .int .i64 s3]) sz_28 rfl (S30.blk 2 rfl) rfl rfl) ?_
 refine qo ?_
 refine e_call (args := [.agg #[.int .i64 s0, .int .u32 s1, .bool b0, .slice Ba5 m5.length da5, .int .i64 s3]]) Try.func9 (by kernel_rfl) rfl rfl ?_
 refine (purlieuref13_Can.calls 200 s0 s1 b0 Ba5 da5 m5 s3 false _ (R_C HA5.out).2 (R_C HA5.out).1 (by rw [rcanS (⟨s0, s1, ⟨b0, m5⟩, s3⟩ : Slot) hl5, hcan])).mono ?_
 rintro e w32 ⟨rfl, hb⟩
 refine ⟨_, rfl, ?_⟩
 have B33 := hb
 have S34 := S30.call B33
 replace HA5 := rb HA5 B33
 replace HA7 := rb HA7 B33
 replace HE5 := rb HE5 B33
 replace HE7 := rb HE7 B33
 replace HT := tb HT B33
 replace HL := vb HL B33
 refine qv (v := .bool true) (r_not rfl rfl) ?_
 refine q_nil ?_
 refine x_seq ?_
 refine s_true rfl ?_
 refine s_seq ?_
 refine s_region ?_
 refine qv (v := .slice (some ad) ((ls ss).length) c) (r_move rfl) ?_
 refine qv (v := .bool false) (r_move rfl) ?_
 refine qv (v := .bool true) (r_not rfl rfl) ?_
 refine qv (v := .bool true) (r_move rfl) ?_
 refine q_val (v := .int .i64 22) (wan rfl rfl rfl rfl) rfl (r_move rfl) ?_
 refine q_val (v := .bool true) (wan rfl rfl rfl rfl) rfl (r_eql rfl rfl (beq_t (by omega))) ?_
 refine qv (v := .bool true) (r_pick_t rfl rfl) ?_
 refine qv (v := .slice (some ad) ((ls ss).length) c) (r_assign rfl) ?_
 refine qv (v := .bool true) (r_assign rfl) ?_
 refine q_nil ?_
 refine x_seq ?_
 refine s_ret ?_
 refine x_seq_ret ?_
 refine x_blk_ret ?_
 refine x_seq_ret ?_
 refine t_ret2 (v := .slice (some ad) ((ls ss).length) c) (v' := .bool true) rfl rfl rfl ?_
 exact post_same hI S34.ext HT.out HL.out
set_option maxHeartbeats 8000000 in
set_option maxRecDepth 100000 in
theorem Does_set_low {w : World} {b g p : Nat} {ok : Nat → Prop} {qs : List (Option Nat)} {ss : List (Option Slot)} {P : Nat → Prop} {ad : Addr} {c : Nat} (hI : DInv w b g p ok qs ss P ad c) (kd fd s0 s1 : Int) (b0 : Bool) (A5 : Option Addr) (c5 : Nat) (l5 : List Int) (s3 : Int) (A7 : Option Addr) (c7 : Nat) (l7 : List Int) (hr5 : Kd.C (Kd.int .i64) w A5 l5.length l5) (hc5 : l5.length ≤ c5) (hr7 : Kd.C (Kd.int .i64) w A7 l7.length l7) (hc7 : l7.length ≤ c7) (hk : kd = 1) (hcan : canS (⟨s0, s1, ⟨b0, cut50 l5⟩, s3⟩ : Slot) = true) (hf : fd < 0) : Calls Try.prog 19 #[.pointer (some ⟨g, 0, none⟩), .slice (some ad) ((ls ss).length) c, .agg #[.int .i64 kd, .int .i64 fd, .int .i64 s0, .int .u32 s1, .bool b0, .slice A5 l5.length c5, .int .i64 s3, .slice A7 l7.length c7]] w (Post w b g p ok ss.length P) := by
 have HT := Aside0.mk hI.T
 have HL := Aside0.mk hI.L
 have hll := ls_len ss
 have hfew := hI.few
 have hqs := hI.T.len
 refine s_enter (n := 233) (L := [(0, .pointer (some ⟨g, 0, none⟩)), (1, .slice (some ad) ((ls ss).length) c), (2, .agg #[.int .i64 kd, .int .i64 fd, .int .i64 s0, .int .u32 s1, .bool b0, .slice A5 l5.length c5, .int .i64 s3, .slice A7 l7.length c7])]) Try.func19 rfl rfl rfl rfl ?_
 have S1 := St.start w (ok)
 refine s_seq ?_
 refine s_region ?_
 refine qo ?_
 refine e_box (cs := [.int .i64 kd, .int .i64 fd, .int .i64 s0, .int .u32 s1, .bool b0, .slice A5 l5.length c5, .int .i64 s3, .slice A7 l7.length c7]) S1 rfl rfl ?_
 intro g2 w3 hg2 S4 B5
 replace HT := tb HT B5
 replace HL := vb HL B5
 refine qv (v := .slice none 0 0) (r_assign rfl) ?_
 refine qv (v := .bool false) (r_assign rfl) ?_
 refine q_nil ?_
 refine x_seq ?_
 refine s_seq ?_
 refine s_region ?_
 refine qv (v := .agg #[.int .i64 kd, .int .i64 fd, .int .i64 s0, .int .u32 s1, .bool b0, .slice A5 l5.length c5, .int .i64 s3, .slice A7 l7.length c7]) (r_loadN (vs := [.int .i64 kd, .int .i64 fd, .int .i64 s0, .int .u32 s1, .bool b0, .slice A5 l5.length c5, .int .i64 s3, .slice A7 l7.length c7]) sz_30 rfl (S4.blk 0 rfl) rfl rfl) ?_
 refine qo ?_
 refine e_call (args := [.agg #[.int .i64 kd, .int .i64 fd, .int .i64 s0, .int .u32 s1, .bool b0, .slice A5 l5.length c5, .int .i64 s3, .slice A7 l7.length c7]]) Try.func13 (by kernel_rfl) rfl rfl ?_
 refine (own_cut kd fd s0 s1 b0 A5 c5 l5 s3 A7 c7 l7 _ (Kd.C_below hr5 B5) hc5 (Kd.C_below hr7 B5) hc7).mono ?_
 rintro e w6 ⟨m5, m7, Ba5, da5, Ba7, da7, ⟨hm5, hm7⟩, hl5, hl7, rfl, ho5, ho7, hb⟩
 refine ⟨_, rfl, ?_⟩
 have B7 := hb
 have S8 := S4.call B7
 replace HT := tb HT B7
 replace HL := vb HL B7
 have HA5 := Aside0.mk ho5
 have HA7 := Aside0.mk ho7
 clear ho5 ho7
 have HBa := S4.ext.size
 rw [← hm5] at hcan
 refine qo ?_
 refine e_store (vs := [.int .i64 kd, .int .i64 fd, .int .i64 s0, .int .u32 s1, .bool b0, .slice Ba5 m5.length da5, .int .i64 s3, .slice Ba7 m7.length da7]) (cs' := [.int .i64 kd, .int .i64 fd, .int .i64 s0, .int .u32 s1, .bool b0, .slice Ba5 m5.length da5, .int .i64 s3, .slice Ba7 m7.length da7]) S8 rfl rfl rfl rfl sz_30 0 rfl (.inl rfl) rfl rfl rfl ?_
 intro w9 S10 E11
 replace HA5 := rx HA5 E11 (S8.blk 0 rfl)
 replace HA7 := rx HA7 E11 (S8.blk 0 rfl)
 replace HT := Aside0.mk (HT.out.move (fun k_ hk_ hl_ => E11.block k_ hl_ (fun e_ => by have o_ := S8.own _ (List.mem_of_getElem? (i := 0) rfl) rfl; try dsimp only at o_ e_; have b_ := hI.okN k_ hk_; omega)))
 replace HL := Aside0.mk (Kd.V_step HL.out (fun k_ hk_ hl_ => E11.block k_ hl_ (fun e_ => by have o_ := S8.own _ (List.mem_of_getElem? (i := 0) rfl) rfl; try dsimp only at o_ e_; have b_ := hI.PN k_ hk_; omega)))
 refine q_nil ?_
 refine x_seq ?_
 refine s_seq ?_
 refine s_region ?_
 refine qv (v := .agg #[.int .i64 kd, .int .i64 fd, .int .i64 s0, .int .u32 s1, .bool b0, .slice Ba5 m5.length da5, .int .i64 s3, .slice Ba7 m7.length da7]) (r_loadN (vs := [.int .i64 kd, .int .i64 fd, .int .i64 s0, .int .u32 s1, .bool b0, .slice Ba5 m5.length da5, .int .i64 s3, .slice Ba7 m7.length da7]) sz_30 rfl (S10.blk 0 rfl) rfl rfl) ?_
 refine qo ?_
 refine e_call (args := [.agg #[.int .i64 kd, .int .i64 fd, .int .i64 s0, .int .u32 s1, .bool b0, .slice Ba5 m5.length da5, .int .i64 s3, .slice Ba7 m7.length da7]]) Try.func13 (by kernel_rfl) rfl rfl ?_
 refine (own_same kd fd s0 s1 b0 Ba5 da5 m5 s3 Ba7 da7 m7 _ (R_C HA5.out).2 (R_C HA5.out).1 (R_C HA7.out).2 (R_C HA7.out).1 hl5 hl7).mono ?_
 rintro e w12 ⟨Be5, de5, Be7, de7, rfl, ho5, ho7, hb⟩
 refine ⟨_, rfl, ?_⟩
 have B13 := hb
 have S14 := S10.call B13
 replace HA5 := rb HA5 B13
 replace HA7 := rb HA7 B13
 replace HT := tb HT B13
 replace HL := vb HL B13
 have HE5 := Aside0.mk ho5
 have HE7 := Aside0.mk ho7
 clear ho5 ho7
 refine qo ?_
 refine e_alloc S14 zro_30 ?_
 intro g15 w16 hg15 S17 B18
 replace HA5 := rb HA5 B18
 replace HA7 := rb HA7 B18
 replace HE5 := rb HE5 B18
 replace HE7 := rb HE7 B18
 replace HT := tb HT B18
 replace HL := vb HL B18
 refine qo ?_
 refine e_store (vs := [.int .i64 kd, .int .i64 fd, .int .i64 s0, .int .u32 s1, .bool b0, .slice Be5 m5.length de5, .int .i64 s3, .slice Be7 m7.length de7]) (cs' := [.int .i64 kd, .int .i64 fd, .int .i64 s0, .int .u32 s1, .bool b0, .slice Be5 m5.length de5, .int .i64 s3, .slice Be7 m7.length de7]) S17 rfl rfl rfl rfl sz_30 0 rfl (.inl rfl) rfl rfl rfl ?_
 intro w19 S20 E21
 replace HA5 := rx HA5 E21 (S17.blk 0 rfl)
 replace HA7 := rx HA7 E21 (S17.blk 0 rfl)
 replace HE5 := rx HE5 E21 (S17.blk 0 rfl)
 replace HE7 := rx HE7 E21 (S17.blk 0 rfl)
 replace HT := Aside0.mk (HT.out.move (fun k_ hk_ hl_ => E21.block k_ hl_ (fun e_ => by have o_ := S17.own _ (List.mem_of_getElem? (i := 0) rfl) rfl; try dsimp only at o_ e_; have b_ := hI.okN k_ hk_; omega)))
 replace HL := Aside0.mk (Kd.V_step HL.out (fun k_ hk_ hl_ => E21.block k_ hl_ (fun e_ => by have o_ := S17.own _ (List.mem_of_getElem? (i := 0) rfl) rfl; try dsimp only at o_ e_; have b_ := hI.PN k_ hk_; omega)))
 refine q_nil ?_
 refine x_seq ?_
 refine s_seq ?_
 refine s_seq ?_
 refine s_region ?_
 refine qv (v := .pointer (some ⟨g2, 0, none⟩)) (r_field fld_30_0 rfl rfl) ?_
 refine qv (v := .int .i64 kd) (r_load1 sz_3 rfl (S20.cell 1 rfl rfl)) ?_
 refine q_nil ?_
 refine x_seq ?_
 refine s_block ?_
 refine s_seq ?_
 refine s_region ?_
 refine qv (v := .bool true) (r_eql rfl rfl (beq_t (by omega))) ?_
 refine qv (v := .bool true) (r_assign rfl) ?_
 refine q_nil ?_
 refine x_seq ?_
 refine s_true rfl ?_
 refine s_seq ?_
 refine s_region ?_
 refine qv (v := .pointer (some ⟨g, 0, none⟩)) (r_move rfl) ?_
 refine qv (v := .pointer (some ⟨g15, 1, none⟩)) (r_field fld_30_1 rfl rfl) ?_
 refine qv (v := .int .i64 fd) (r_load1 sz_3 rfl (S20.cell 0 rfl rfl)) ?_
 refine qv (v := .pointer (some ⟨g15, 2, none⟩)) (r_field fld_30_2 rfl rfl) ?_
 refine qv (v := .agg #[.int .i64 s0, .int .u32 s1, .bool b0, .slice Be5 m5.length de5, .int .i64 s3]) (r_loadN (vs := [.int .i64 s0, .int .u32 s1, .bool b0, .slice Be5 m5.length de5, .int .i64 s3]) sz_28 rfl (S20.blk 0 rfl) rfl rfl) ?_
 refine qo ?_
 refine e_call (args := [.pointer (some ⟨g, 0, none⟩), .int .i64 fd, .agg #[.int .i64 s0, .int .u32 s1, .bool b0, .slice Be5 m5.length de5, .int .i64 s3]]) Try.func29 (by kernel_rfl) rfl rfl ?_
 refine (Set_low g fd hf (⟨s0, s1, ⟨b0, m5⟩, s3⟩ : Slot) Be5 de5 (R_C HE5.out).2 (R_C HE5.out).1 200 (by rw [wcanS (⟨s0, s1, ⟨b0, m5⟩, s3⟩ : Slot) hl5, hcan])).mono ?_
 rintro e w22 ⟨rfl, hb⟩
 refine ⟨_, rfl, ?_⟩
 have B23 := hb
 have S24 := S20.call B23
 replace HA5 := rb HA5 B23
 replace HA7 := rb HA7 B23
 replace HE5 := rb HE5 B23
 replace HE7 := rb HE7 B23
 replace HT := tb HT B23
 replace HL := vb HL B23
 refine qv (v := .tuple #[.agg #[.int .i64 0, .int .u32 0, .bool false, .slice none 0 0, .int .i64 0], .bool false, .int .i64 9]) (r_move rfl) ?_
 refine qv (v := .agg #[.int .i64 0, .int .u32 0, .bool false, .slice none 0 0, .int .i64 0]) (r_extract rfl rfl) ?_
 refine qv (v := .bool false) (r_extract rfl rfl) ?_
 refine qv (v := .int .i64 9) (r_extract rfl rfl) ?_
 refine qo ?_
 refine e_alloc S24 zro_28 ?_
 intro g25 w26 hg25 S27 B28
 replace HA5 := rb HA5 B28
 replace HA7 := rb HA7 B28
 replace HE5 := rb HE5 B28
 replace HE7 := rb HE7 B28
 replace HT := tb HT B28
 replace HL := vb HL B28
 refine qo ?_
 refine e_store (vs := [.int .i64 0, .int .u32 0, .bool false, .slice none 0 0, .int .i64 0]) (cs' := [.int .i64 0, .int .u32 0, .bool false, .slice none 0 0, .int .i64 0]) S27 rfl rfl rfl rfl sz_28 0 rfl (.inl rfl) rfl rfl rfl ?_
 intro w29 S30 E31
 replace HA5 := rx HA5 E31 (S27.blk 0 rfl)
 replace HA7 := rx HA7 E31 (S27.blk 0 rfl)
 replace HE5 := rx HE5 E31 (S27.blk 0 rfl)
 replace HE7 := rx HE7 E31 (S27.blk 0 rfl)
 replace HT := Aside0.mk (HT.out.move (fun k_ hk_ hl_ => E31.block k_ hl_ (fun e_ => by have o_ := S27.own _ (List.mem_of_getElem? (i := 0) rfl) rfl; try dsimp only at o_ e_; have b_ := hI.okN k_ hk_; omega)))
 replace HL := Aside0.mk (Kd.V_step HL.out (fun k_ hk_ hl_ => E31.block k_ hl_ (fun e_ => by have o_ := S27.own _ (List.mem_of_getElem? (i := 0) rfl) rfl; try dsimp only at o_ e_; have b_ := hI.PN k_ hk_; omega)))
 refine qv (v := .bool false) (r_assign rfl) ?_
 refine qv (v := .int .i64 9) (r_assign rfl) ?_
 refine q_nil ?_
 refine x_seq ?_
 refine s_seq ?_
 refine s_seq ?_
 refine s_region ?_
 refine qv (v := .pointer (some ⟨g2, 2, none⟩)) (r_field fld_30_2 rfl rfl) ?_
 refine qv (v := .agg #[.int .i64 s0, .int .u32 s1, .bool b0, .slice Ba5 m5.length da5, .int .i64 s3]) (r_loadN (vs := [.int .i64 s0, .int .u32 s1, .bool b0, .slice Ba5 m5.length da5, .int .i64 s3]) sz_28 rfl (S30.blk 2 rfl) rfl rfl) ?_
 refine qo ?_
 refine e_call (args := [.agg #[.int .i64 s0, .int .u32 s1, .bool b0, .slice Ba5 m5.length da5, .int .i64 s3]]) Try.func9 (by kernel_rfl) rfl rfl ?_
 refine (purlieuref13_Can.calls 200 s0 s1 b0 Ba5 da5 m5 s3 true _ (R_C HA5.out).2 (R_C HA5.out).1 (by rw [rcanS (⟨s0, s1, ⟨b0, m5⟩, s3⟩ : Slot) hl5, hcan])).mono ?_
 rintro e w32 ⟨rfl, hb⟩
 refine ⟨_, rfl, ?_⟩
 have B33 := hb
 have S34 := S30.call B33
 replace HA5 := rb HA5 B33
 replace HA7 := rb HA7 B33
 replace HE5 := rb HE5 B33
 replace HE7 := rb HE7 B33
 replace HT := tb HT B33
 replace HL := vb HL B33
 refine qv (v := .bool false) (r_not rfl rfl) ?_
 refine q_nil ?_
 refine x_seq ?_
 refine s_false rfl ?_
 refine s_skip ?_
 refine x_seq ?_
 refine s_seq ?_
 refine s_seq ?_
 refine s_region ?_
 refine qv (v := .pointer (some ⟨g2, 1, none⟩)) (r_field fld_30_1 rfl rfl) ?_
 refine qv (v := .int .i64 fd) (r_load1 sz_3 rfl (S34.cell 2 rfl rfl)) ?_
 refine qv (v := .bool true) (r_lss rfl rfl (decide_eq_true (by omega))) ?_
 refine qv (v := .bool true) (r_move rfl) ?_
 refine q_skip (unwan rfl rfl rfl rfl rfl) rfl ?_
 refine q_skip (unwan rfl rfl rfl rfl rfl) rfl ?_
 refine q_skip (unwan rfl rfl rfl rfl rfl) rfl ?_
 refine q_skip (unwan rfl rfl rfl rfl rfl) rfl ?_
 refine q_skip (unwan rfl rfl rfl rfl rfl) rfl ?_
 refine qv (v := .bool true) (r_pick_t rfl rfl) ?_
 refine q_nil ?_
 refine x_seq ?_
 refine s_true rfl ?_
 refine s_seq ?_
 refine s_region ?_
 refine qv (v := .slice (some ad) ((ls ss).length) c) (r_move rfl) ?_
 refine qv (v := .bool false) (r_move rfl) ?_
 refine qv (v := .bool true) (r_not rfl rfl) ?_
 refine qv (v := .bool true) (r_move rfl) ?_
 refine q_val (v := .int .i64 9) (wan rfl rfl rfl rfl) rfl (r_move rfl) ?_
 refine q_val (v := .bool true) (wan rfl rfl rfl rfl) rfl (r_eql rfl rfl (beq_t (by omega))) ?_
 refine qv (v := .bool true) (r_pick_t rfl rfl) ?_
 refine qv (v := .slice (some ad) ((ls ss).length) c) (r_assign rfl) ?_
 refine qv (v := .bool true) (r_assign rfl) ?_
 refine q_nil ?_
 refine x_seq ?_
 refine s_ret ?_
 refine x_seq_ret ?_
 refine x_blk_ret ?_
 refine x_seq_ret ?_
 refine t_ret2 (v := .slice (some ad) ((ls ss).length) c) (v' := .bool true) rfl rfl rfl ?_
 exact post_same hI S34.ext HT.out HL.out
set_option maxHeartbeats 8000000 in
set_option maxRecDepth 100000 in
theorem Does_set_high {w : World} {b g p : Nat} {ok : Nat → Prop} {qs : List (Option Nat)} {ss : List (Option Slot)} {P : Nat → Prop} {ad : Addr} {c : Nat} (hI : DInv w b g p ok qs ss P ad c) (kd fd s0 s1 : Int) (b0 : Bool) (A5 : Option Addr) (c5 : Nat) (l5 : List Int) (s3 : Int) (A7 : Option Addr) (c7 : Nat) (l7 : List Int) (hr5 : Kd.C (Kd.int .i64) w A5 l5.length l5) (hc5 : l5.length ≤ c5) (hr7 : Kd.C (Kd.int .i64) w A7 l7.length l7) (hc7 : l7.length ≤ c7) (hk : kd = 1) (hcan : canS (⟨s0, s1, ⟨b0, cut50 l5⟩, s3⟩ : Slot) = true) (h0 : 0 ≤ fd) (hf : (ss.length : Int) ≤ fd) : Calls Try.prog 19 #[.pointer (some ⟨g, 0, none⟩), .slice (some ad) ((ls ss).length) c, .agg #[.int .i64 kd, .int .i64 fd, .int .i64 s0, .int .u32 s1, .bool b0, .slice A5 l5.length c5, .int .i64 s3, .slice A7 l7.length c7]] w (Post w b g p ok ss.length P) := by
 have HT := Aside0.mk hI.T
 have HL := Aside0.mk hI.L
 have hll := ls_len ss
 have hfew := hI.few
 have hqs := hI.T.len
 refine s_enter (n := 233) (L := [(0, .pointer (some ⟨g, 0, none⟩)), (1, .slice (some ad) ((ls ss).length) c), (2, .agg #[.int .i64 kd, .int .i64 fd, .int .i64 s0, .int .u32 s1, .bool b0, .slice A5 l5.length c5, .int .i64 s3, .slice A7 l7.length c7])]) Try.func19 rfl rfl rfl rfl ?_
 have S1 := St.start w (ok)
 refine s_seq ?_
 refine s_region ?_
 refine qo ?_
 refine e_box (cs := [.int .i64 kd, .int .i64 fd, .int .i64 s0, .int .u32 s1, .bool b0, .slice A5 l5.length c5, .int .i64 s3, .slice A7 l7.length c7]) S1 rfl rfl ?_
 intro g2 w3 hg2 S4 B5
 replace HT := tb HT B5
 replace HL := vb HL B5
 refine qv (v := .slice none 0 0) (r_assign rfl) ?_
 refine qv (v := .bool false) (r_assign rfl) ?_
 refine q_nil ?_
 refine x_seq ?_
 refine s_seq ?_
 refine s_region ?_
 refine qv (v := .agg #[.int .i64 kd, .int .i64 fd, .int .i64 s0, .int .u32 s1, .bool b0, .slice A5 l5.length c5, .int .i64 s3, .slice A7 l7.length c7]) (r_loadN (vs := [.int .i64 kd, .int .i64 fd, .int .i64 s0, .int .u32 s1, .bool b0, .slice A5 l5.length c5, .int .i64 s3, .slice A7 l7.length c7]) sz_30 rfl (S4.blk 0 rfl) rfl rfl) ?_
 refine qo ?_
 refine e_call (args := [.agg #[.int .i64 kd, .int .i64 fd, .int .i64 s0, .int .u32 s1, .bool b0, .slice A5 l5.length c5, .int .i64 s3, .slice A7 l7.length c7]]) Try.func13 (by kernel_rfl) rfl rfl ?_
 refine (own_cut kd fd s0 s1 b0 A5 c5 l5 s3 A7 c7 l7 _ (Kd.C_below hr5 B5) hc5 (Kd.C_below hr7 B5) hc7).mono ?_
 rintro e w6 ⟨m5, m7, Ba5, da5, Ba7, da7, ⟨hm5, hm7⟩, hl5, hl7, rfl, ho5, ho7, hb⟩
 refine ⟨_, rfl, ?_⟩
 have B7 := hb
 have S8 := S4.call B7
 replace HT := tb HT B7
 replace HL := vb HL B7
 have HA5 := Aside0.mk ho5
 have HA7 := Aside0.mk ho7
 clear ho5 ho7
 have HBa := S4.ext.size
 rw [← hm5] at hcan
 refine qo ?_
 refine e_store (vs := [.int .i64 kd, .int .i64 fd, .int .i64 s0, .int .u32 s1, .bool b0, .slice Ba5 m5.length da5, .int .i64 s3, .slice Ba7 m7.length da7]) (cs' := [.int .i64 kd, .int .i64 fd, .int .i64 s0, .int .u32 s1, .bool b0, .slice Ba5 m5.length da5, .int .i64 s3, .slice Ba7 m7.length da7]) S8 rfl rfl rfl rfl sz_30 0 rfl (.inl rfl) rfl rfl rfl ?_
 intro w9 S10 E11
 replace HA5 := rx HA5 E11 (S8.blk 0 rfl)
 replace HA7 := rx HA7 E11 (S8.blk 0 rfl)
 replace HT := Aside0.mk (HT.out.move (fun k_ hk_ hl_ => E11.block k_ hl_ (fun e_ => by have o_ := S8.own _ (List.mem_of_getElem? (i := 0) rfl) rfl; try dsimp only at o_ e_; have b_ := hI.okN k_ hk_; omega)))
 replace HL := Aside0.mk (Kd.V_step HL.out (fun k_ hk_ hl_ => E11.block k_ hl_ (fun e_ => by have o_ := S8.own _ (List.mem_of_getElem? (i := 0) rfl) rfl; try dsimp only at o_ e_; have b_ := hI.PN k_ hk_; omega)))
 refine q_nil ?_
 refine x_seq ?_
 refine s_seq ?_
 refine s_region ?_
 refine qv (v := .agg #[.int .i64 kd, .int .i64 fd, .int .i64 s0, .int .u32 s1, .bool b0, .slice Ba5 m5.length da5, .int .i64 s3, .slice Ba7 m7.length da7]) (r_loadN (vs := [.int .i64 kd, .int .i64 fd, .int .i64 s0, .int .u32 s1, .bool b0, .slice Ba5 m5.length da5, .int .i64 s3, .slice Ba7 m7.length da7]) sz_30 rfl (S10.blk 0 rfl) rfl rfl) ?_
 refine qo ?_
 refine e_call (args := [.agg #[.int .i64 kd, .int .i64 fd, .int .i64 s0, .int .u32 s1, .bool b0, .slice Ba5 m5.length da5, .int .i64 s3, .slice Ba7 m7.length da7]]) Try.func13 (by kernel_rfl) rfl rfl ?_
 refine (own_same kd fd s0 s1 b0 Ba5 da5 m5 s3 Ba7 da7 m7 _ (R_C HA5.out).2 (R_C HA5.out).1 (R_C HA7.out).2 (R_C HA7.out).1 hl5 hl7).mono ?_
 rintro e w12 ⟨Be5, de5, Be7, de7, rfl, ho5, ho7, hb⟩
 refine ⟨_, rfl, ?_⟩
 have B13 := hb
 have S14 := S10.call B13
 replace HA5 := rb HA5 B13
 replace HA7 := rb HA7 B13
 replace HT := tb HT B13
 replace HL := vb HL B13
 have HE5 := Aside0.mk ho5
 have HE7 := Aside0.mk ho7
 clear ho5 ho7
 refine qo ?_
 refine e_alloc S14 zro_30 ?_
 intro g15 w16 hg15 S17 B18
 replace HA5 := rb HA5 B18
 replace HA7 := rb HA7 B18
 replace HE5 := rb HE5 B18
 replace HE7 := rb HE7 B18
 replace HT := tb HT B18
 replace HL := vb HL B18
 refine qo ?_
 refine e_store (vs := [.int .i64 kd, .int .i64 fd, .int .i64 s0, .int .u32 s1, .bool b0, .slice Be5 m5.length de5, .int .i64 s3, .slice Be7 m7.length de7]) (cs' := [.int .i64 kd, .int .i64 fd, .int .i64 s0, .int .u32 s1, .bool b0, .slice Be5 m5.length de5, .int .i64 s3, .slice Be7 m7.length de7]) S17 rfl rfl rfl rfl sz_30 0 rfl (.inl rfl) rfl rfl rfl ?_
 intro w19 S20 E21
 replace HA5 := rx HA5 E21 (S17.blk 0 rfl)
 replace HA7 := rx HA7 E21 (S17.blk 0 rfl)
 replace HE5 := rx HE5 E21 (S17.blk 0 rfl)
 replace HE7 := rx HE7 E21 (S17.blk 0 rfl)
 replace HT := Aside0.mk (HT.out.move (fun k_ hk_ hl_ => E21.block k_ hl_ (fun e_ => by have o_ := S17.own _ (List.mem_of_getElem? (i := 0) rfl) rfl; try dsimp only at o_ e_; have b_ := hI.okN k_ hk_; omega)))
 replace HL := Aside0.mk (Kd.V_step HL.out (fun k_ hk_ hl_ => E21.block k_ hl_ (fun e_ => by have o_ := S17.own _ (List.mem_of_getElem? (i := 0) rfl) rfl; try dsimp only at o_ e_; have b_ := hI.PN k_ hk_; omega)))
 refine q_nil ?_
 refine x_seq ?_
 refine s_seq ?_
 refine s_seq ?_
 refine s_region ?_
 refine qv (v := .pointer (some ⟨g2, 0, none⟩)) (r_field fld_30_0 rfl rfl) ?_
 refine qv (v := .int .i64 kd) (r_load1 sz_3 rfl (S20.cell 1 rfl rfl)) ?_
 refine q_nil ?_
 refine x_seq ?_
 refine s_block ?_
 refine s_seq ?_
 refine s_region ?_
 refine qv (v := .bool true) (r_eql rfl rfl (beq_t (by omega))) ?_
 refine qv (v := .bool true) (r_assign rfl) ?_
 refine q_nil ?_
 refine x_seq ?_
 refine s_true rfl ?_
 refine s_seq ?_
 refine s_region ?_
 refine qv (v := .pointer (some ⟨g, 0, none⟩)) (r_move rfl) ?_
 refine qv (v := .pointer (some ⟨g15, 1, none⟩)) (r_field fld_30_1 rfl rfl) ?_
 refine qv (v := .int .i64 fd) (r_load1 sz_3 rfl (S20.cell 0 rfl rfl)) ?_
 refine qv (v := .pointer (some ⟨g15, 2, none⟩)) (r_field fld_30_2 rfl rfl) ?_
 refine qv (v := .agg #[.int .i64 s0, .int .u32 s1, .bool b0, .slice Be5 m5.length de5, .int .i64 s3]) (r_loadN (vs := [.int .i64 s0, .int .u32 s1, .bool b0, .slice Be5 m5.length de5, .int .i64 s3]) sz_28 rfl (S20.blk 0 rfl) rfl rfl) ?_
 refine qo ?_
 refine e_call (args := [.pointer (some ⟨g, 0, none⟩), .int .i64 fd, .agg #[.int .i64 s0, .int .u32 s1, .bool b0, .slice Be5 m5.length de5, .int .i64 s3]]) Try.func29 (by kernel_rfl) rfl rfl ?_
 refine (Set_high HT.out fd h0 (by omega) (⟨s0, s1, ⟨b0, m5⟩, s3⟩ : Slot) Be5 de5 (R_C HE5.out).2 (R_C HE5.out).1 200 (by rw [wcanS (⟨s0, s1, ⟨b0, m5⟩, s3⟩ : Slot) hl5, hcan])).mono ?_
 rintro e w22 ⟨rfl, hb⟩
 refine ⟨_, rfl, ?_⟩
 have B23 := hb
 have S24 := S20.call B23
 replace HA5 := rb HA5 B23
 replace HA7 := rb HA7 B23
 replace HE5 := rb HE5 B23
 replace HE7 := rb HE7 B23
 replace HT := tb HT B23
 replace HL := vb HL B23
 refine qv (v := .tuple #[.agg #[.int .i64 0, .int .u32 0, .bool false, .slice none 0 0, .int .i64 0], .bool false, .int .i64 9]) (r_move rfl) ?_
 refine qv (v := .agg #[.int .i64 0, .int .u32 0, .bool false, .slice none 0 0, .int .i64 0]) (r_extract rfl rfl) ?_
 refine qv (v := .bool false) (r_extract rfl rfl) ?_
 refine qv (v := .int .i64 9) (r_extract rfl rfl) ?_
 refine qo ?_
 refine e_alloc S24 zro_28 ?_
 intro g25 w26 hg25 S27 B28
 replace HA5 := rb HA5 B28
 replace HA7 := rb HA7 B28
 replace HE5 := rb HE5 B28
 replace HE7 := rb HE7 B28
 replace HT := tb HT B28
 replace HL := vb HL B28
 refine qo ?_
 refine e_store (vs := [.int .i64 0, .int .u32 0, .bool false, .slice none 0 0, .int .i64 0]) (cs' := [.int .i64 0, .int .u32 0, .bool false, .slice none 0 0, .int .i64 0]) S27 rfl rfl rfl rfl sz_28 0 rfl (.inl rfl) rfl rfl rfl ?_
 intro w29 S30 E31
 replace HA5 := rx HA5 E31 (S27.blk 0 rfl)
 replace HA7 := rx HA7 E31 (S27.blk 0 rfl)
 replace HE5 := rx HE5 E31 (S27.blk 0 rfl)
 replace HE7 := rx HE7 E31 (S27.blk 0 rfl)
 replace HT := Aside0.mk (HT.out.move (fun k_ hk_ hl_ => E31.block k_ hl_ (fun e_ => by have o_ := S27.own _ (List.mem_of_getElem? (i := 0) rfl) rfl; try dsimp only at o_ e_; have b_ := hI.okN k_ hk_; omega)))
 replace HL := Aside0.mk (Kd.V_step HL.out (fun k_ hk_ hl_ => E31.block k_ hl_ (fun e_ => by have o_ := S27.own _ (List.mem_of_getElem? (i := 0) rfl) rfl; try dsimp only at o_ e_; have b_ := hI.PN k_ hk_; omega)))
 refine qv (v := .bool false) (r_assign rfl) ?_
 refine qv (v := .int .i64 9) (r_assign rfl) ?_
 refine q_nil ?_
 refine x_seq ?_
 refine s_seq ?_
 refine s_seq ?_
 refine s_region ?_
 refine qv (v := .pointer (some ⟨g2, 2, none⟩)) (r_field fld_30_2 rfl rfl) ?_
 refine qv (v := .agg #[.int .i64 s0, .int .u32 s1, .bool b0, .slice Ba5 m5.length da5, .int .i64 s3]) (r_loadN (vs := [.int .i64 s0, .int .u32 s1, .bool b0, .slice Ba5 m5.length da5, .int .i64 s3]) sz_28 rfl (S30.blk 2 rfl) rfl rfl) ?_
 refine qo ?_
 refine e_call (args := [.agg #[.int .i64 s0, .int .u32 s1, .bool b0, .slice Ba5 m5.length da5, .int .i64 s3]]) Try.func9 (by kernel_rfl) rfl rfl ?_
 refine (purlieuref13_Can.calls 200 s0 s1 b0 Ba5 da5 m5 s3 true _ (R_C HA5.out).2 (R_C HA5.out).1 (by rw [rcanS (⟨s0, s1, ⟨b0, m5⟩, s3⟩ : Slot) hl5, hcan])).mono ?_
 rintro e w32 ⟨rfl, hb⟩
 refine ⟨_, rfl, ?_⟩
 have B33 := hb
 have S34 := S30.call B33
 replace HA5 := rb HA5 B33
 replace HA7 := rb HA7 B33
 replace HE5 := rb HE5 B33
 replace HE7 := rb HE7 B33
 replace HT := tb HT B33
 replace HL := vb HL B33
 refine qv (v := .bool false) (r_not rfl rfl) ?_
 refine q_nil ?_
 refine x_seq ?_
 refine s_false rfl ?_
 refine s_skip ?_
 refine x_seq ?_
 refine s_seq ?_
 refine s_seq ?_
 refine s_region ?_
 refine qv (v := .pointer (some ⟨g2, 1, none⟩)) (r_field fld_30_1 rfl rfl) ?_
 refine qv (v := .int .i64 fd) (r_load1 sz_3 rfl (S34.cell 2 rfl rfl)) ?_
 refine qv (v := .bool false) (r_lss rfl rfl (decide_eq_false (by omega))) ?_
 refine qv (v := .bool false) (r_move rfl) ?_
 refine q_val (v := .pointer (some ⟨g2, 1, none⟩)) (wan rfl rfl rfl rfl) rfl (r_field fld_30_1 rfl rfl) ?_
 refine q_val (v := .int .i64 fd) (wan rfl rfl rfl rfl) rfl (r_load1 sz_3 rfl (S34.cell 2 rfl rfl)) ?_
 refine q_val (v := .slice (some ad) ((ls ss).length) c) (wan rfl rfl rfl rfl) rfl (r_move rfl) ?_
 refine q_val (v := .int .i64 (((ls ss).length : Nat) : Int)) (wan rfl rfl rfl rfl) rfl (r_len_slice elm_47 rfl) ?_
 refine q_val (v := .bool true) (wan rfl rfl rfl rfl) rfl (r_geq rfl rfl (decide_eq_true (by omega))) ?_
 refine qv (v := .bool true) (r_pick_f rfl rfl) ?_
 refine q_nil ?_
 refine x_seq ?_
 refine s_true rfl ?_
 refine s_seq ?_
 refine s_region ?_
 refine qv (v := .slice (some ad) ((ls ss).length) c) (r_move rfl) ?_
 refine qv (v := .bool false) (r_move rfl) ?_
 refine qv (v := .bool true) (r_not rfl rfl) ?_
 refine qv (v := .bool true) (r_move rfl) ?_
 refine q_val (v := .int .i64 9) (wan rfl rfl rfl rfl) rfl (r_move rfl) ?_
 refine q_val (v := .bool true) (wan rfl rfl rfl rfl) rfl (r_eql rfl rfl (beq_t (by omega))) ?_
 refine qv (v := .bool true) (r_pick_t rfl rfl) ?_
 refine qv (v := .slice (some ad) ((ls ss).length) c) (r_assign rfl) ?_
 refine qv (v := .bool true) (r_assign rfl) ?_
 refine q_nil ?_
 refine x_seq ?_
 refine s_ret ?_
 refine x_seq_ret ?_
 refine x_blk_ret ?_
 refine x_seq_ret ?_
 refine t_ret2 (v := .slice (some ad) ((ls ss).length) c) (v' := .bool true) rfl rfl rfl ?_
 exact post_same hI S34.ext HT.out HL.out
end Go.Proofs.Ytilfalpfanaanaa.PA

namespace Go.Proofs.Ytilfalpfanaanaa.PA
open Go.RowKit Go.Proofs.YtilfalpfanaanaaW.PrintWords Go.Proofs.YtilfalpfanaanaaW.PrintLast Go.Proofs.YtilfalpfanaanaaW.PrintMore Go.Proofs.Ytilfalpfanaanaa.Sx
set_option maxHeartbeats 8000000 in
set_option maxRecDepth 100000 in
theorem Does_take_no {w : World} {b g p : Nat} {ok : Nat → Prop} {qs : List (Option Nat)} {ss : List (Option Slot)} {P : Nat → Prop} {ad : Addr} {c : Nat} (hI : DInv w b g p ok qs ss P ad c) (kd fd s0 s1 : Int) (b0 : Bool) (A5 : Option Addr) (c5 : Nat) (l5 : List Int) (s3 : Int) (A7 : Option Addr) (c7 : Nat) (l7 : List Int) (hr5 : Kd.C (Kd.int .i64) w A5 l5.length l5) (hc5 : l5.length ≤ c5) (hr7 : Kd.C (Kd.int .i64) w A7 l7.length l7) (hc7 : l7.length ≤ c7) (hk : kd = 2) (hno : ∀ s, 0 ≤ fd → ss[fd.toNat]? ≠ some (some s)) : Calls Try.prog 19 #[.pointer (some ⟨g, 0, none⟩), .slice (some ad) ((ls ss).length) c, .agg #[.int .i64 kd, .int .i64 fd, .int .i64 s0, .int .u32 s1, .bool b0, .slice A5 l5.length c5, .int .i64 s3, .slice A7 l7.length c7]] w (Post w b g p ok ss.length P) := by
 have HT := Aside0.mk hI.T
 have HL := Aside0.mk hI.L
 have hll := ls_len ss
 have hfew := hI.few
 have hqs := hI.T.len
 refine s_enter (n := 233) (L := [(0, .pointer (some ⟨g, 0, none⟩)), (1, .slice (some ad) ((ls ss).length) c), (2, .agg #[.int .i64 kd, .int .i64 fd, .int .i64 s0, .int .u32 s1, .bool b0, .slice A5 l5.length c5, .int .i64 s3, .slice A7 l7.length c7])]) Try.func19 rfl rfl rfl rfl ?_
 have S1 := St.start w (ok)
 refine s_seq ?_
 refine s_region ?_
 refine qo ?_
 refine e_box (cs := [.int .i64 kd, .int .i64 fd, .int .i64 s0, .int .u32 s1, .bool b0, .slice A5 l5.length c5, .int .i64 s3, .slice A7 l7.length c7]) S1 rfl rfl ?_
 intro g2 w3 hg2 S4 B5
 replace HT := tb HT B5
 replace HL := vb HL B5
 refine qv (v := .slice none 0 0) (r_assign rfl) ?_
 refine qv (v := .bool false) (r_assign rfl) ?_
 refine q_nil ?_
 refine x_seq ?_
 refine s_seq ?_
 refine s_region ?_
 refine qv (v := .agg #[.int .i64 kd, .int .i64 fd, .int .i64 s0, .int .u32 s1, .bool b0, .slice A5 l5.length c5, .int .i64 s3, .slice A7 l7.length c7]) (r_loadN (vs := [.int .i64 kd, .int .i64 fd, .int .i64 s0, .int .u32 s1, .bool b0, .slice A5 l5.length c5, .int .i64 s3, .slice A7 l7.length c7]) sz_30 rfl (S4.blk 0 rfl) rfl rfl) ?_
 refine qo ?_
 refine e_call (args := [.agg #[.int .i64 kd, .int .i64 fd, .int .i64 s0, .int .u32 s1, .bool b0, .slice A5 l5.length c5, .int .i64 s3, .slice A7 l7.length c7]]) Try.func13 (by kernel_rfl) rfl rfl ?_
 refine (own_cut kd fd s0 s1 b0 A5 c5 l5 s3 A7 c7 l7 _ (Kd.C_below hr5 B5) hc5 (Kd.C_below hr7 B5) hc7).mono ?_
 rintro e w6 ⟨m5, m7, Ba5, da5, Ba7, da7, ⟨hm5, hm7⟩, hl5, hl7, rfl, ho5, ho7, hb⟩
 refine ⟨_, rfl, ?_⟩
 have B7 := hb
 have S8 := S4.call B7
 replace HT := tb HT B7
 replace HL := vb HL B7
 have HA5 := Aside0.mk ho5
 have HA7 := Aside0.mk ho7
 clear ho5 ho7
 have HBa := S4.ext.size
 refine qo ?_
 refine e_store (vs := [.int .i64 kd, .int .i64 fd, .int .i64 s0, .int .u32 s1, .bool b0, .slice Ba5 m5.length da5, .int .i64 s3, .slice Ba7 m7.length da7]) (cs' := [.int .i64 kd, .int .i64 fd, .int .i64 s0, .int .u32 s1, .bool b0, .slice Ba5 m5.length da5, .int .i64 s3, .slice Ba7 m7.length da7]) S8 rfl rfl rfl rfl sz_30 0 rfl (.inl rfl) rfl rfl rfl ?_
 intro w9 S10 E11
 replace HA5 := rx HA5 E11 (S8.blk 0 rfl)
 replace HA7 := rx HA7 E11 (S8.blk 0 rfl)
 replace HT := Aside0.mk (HT.out.move (fun k_ hk_ hl_ => E11.block k_ hl_ (fun e_ => by have o_ := S8.own _ (List.mem_of_getElem? (i := 0) rfl) rfl; try dsimp only at o_ e_; have b_ := hI.okN k_ hk_; omega)))
 replace HL := Aside0.mk (Kd.V_step HL.out (fun k_ hk_ hl_ => E11.block k_ hl_ (fun e_ => by have o_ := S8.own _ (List.mem_of_getElem? (i := 0) rfl) rfl; try dsimp only at o_ e_; have b_ := hI.PN k_ hk_; omega)))
 refine q_nil ?_
 refine x_seq ?_
 refine s_seq ?_
 refine s_region ?_
 refine qv (v := .agg #[.int .i64 kd, .int .i64 fd, .int .i64 s0, .int .u32 s1, .bool b0, .slice Ba5 m5.length da5, .int .i64 s3, .slice Ba7 m7.length da7]) (r_loadN (vs := [.int .i64 kd, .int .i64 fd, .int .i64 s0, .int .u32 s1, .bool b0, .slice Ba5 m5.length da5, .int .i64 s3, .slice Ba7 m7.length da7]) sz_30 rfl (S10.blk 0 rfl) rfl rfl) ?_
 refine qo ?_
 refine e_call (args := [.agg #[.int .i64 kd, .int .i64 fd, .int .i64 s0, .int .u32 s1, .bool b0, .slice Ba5 m5.length da5, .int .i64 s3, .slice Ba7 m7.length da7]]) Try.func13 (by kernel_rfl) rfl rfl ?_
 refine (own_same kd fd s0 s1 b0 Ba5 da5 m5 s3 Ba7 da7 m7 _ (R_C HA5.out).2 (R_C HA5.out).1 (R_C HA7.out).2 (R_C HA7.out).1 hl5 hl7).mono ?_
 rintro e w12 ⟨Be5, de5, Be7, de7, rfl, ho5, ho7, hb⟩
 refine ⟨_, rfl, ?_⟩
 have B13 := hb
 have S14 := S10.call B13
 replace HA5 := rb HA5 B13
 replace HA7 := rb HA7 B13
 replace HT := tb HT B13
 replace HL := vb HL B13
 have HE5 := Aside0.mk ho5
 have HE7 := Aside0.mk ho7
 clear ho5 ho7
 refine qo ?_
 refine e_alloc S14 zro_30 ?_
 intro g15 w16 hg15 S17 B18
 replace HA5 := rb HA5 B18
 replace HA7 := rb HA7 B18
 replace HE5 := rb HE5 B18
 replace HE7 := rb HE7 B18
 replace HT := tb HT B18
 replace HL := vb HL B18
 refine qo ?_
 refine e_store (vs := [.int .i64 kd, .int .i64 fd, .int .i64 s0, .int .u32 s1, .bool b0, .slice Be5 m5.length de5, .int .i64 s3, .slice Be7 m7.length de7]) (cs' := [.int .i64 kd, .int .i64 fd, .int .i64 s0, .int .u32 s1, .bool b0, .slice Be5 m5.length de5, .int .i64 s3, .slice Be7 m7.length de7]) S17 rfl rfl rfl rfl sz_30 0 rfl (.inl rfl) rfl rfl rfl ?_
 intro w19 S20 E21
 replace HA5 := rx HA5 E21 (S17.blk 0 rfl)
 replace HA7 := rx HA7 E21 (S17.blk 0 rfl)
 replace HE5 := rx HE5 E21 (S17.blk 0 rfl)
 replace HE7 := rx HE7 E21 (S17.blk 0 rfl)
 replace HT := Aside0.mk (HT.out.move (fun k_ hk_ hl_ => E21.block k_ hl_ (fun e_ => by have o_ := S17.own _ (List.mem_of_getElem? (i := 0) rfl) rfl; try dsimp only at o_ e_; have b_ := hI.okN k_ hk_; omega)))
 replace HL := Aside0.mk (Kd.V_step HL.out (fun k_ hk_ hl_ => E21.block k_ hl_ (fun e_ => by have o_ := S17.own _ (List.mem_of_getElem? (i := 0) rfl) rfl; try dsimp only at o_ e_; have b_ := hI.PN k_ hk_; omega)))
 refine q_nil ?_
 refine x_seq ?_
 refine s_seq ?_
 refine s_seq ?_
 refine s_region ?_
 refine qv (v := .pointer (some ⟨g2, 0, none⟩)) (r_field fld_30_0 rfl rfl) ?_
 refine qv (v := .int .i64 kd) (r_load1 sz_3 rfl (S20.cell 1 rfl rfl)) ?_
 refine q_nil ?_
 refine x_seq ?_
 refine s_block ?_
 refine s_seq ?_
 refine s_region ?_
 refine qv (v := .bool false) (r_eql rfl rfl (beq_f (by omega))) ?_
 refine qv (v := .bool false) (r_assign rfl) ?_
 refine q_nil ?_
 refine x_seq ?_
 refine s_false rfl ?_
 refine s_seq ?_
 refine s_region ?_
 refine qv (v := .bool true) (r_eql rfl rfl (beq_t (by omega))) ?_
 refine qv (v := .bool true) (r_assign rfl) ?_
 refine q_nil ?_
 refine x_seq ?_
 refine s_true rfl ?_
 refine s_seq ?_
 refine s_region ?_
 refine qv (v := .pointer (some ⟨g, 0, none⟩)) (r_move rfl) ?_
 refine qv (v := .pointer (some ⟨g15, 1, none⟩)) (r_field fld_30_1 rfl rfl) ?_
 refine qv (v := .int .i64 fd) (r_load1 sz_3 rfl (S20.cell 0 rfl rfl)) ?_
 refine qo ?_
 refine e_call (args := [.pointer (some ⟨g, 0, none⟩), .int .i64 fd]) Try.func30 (by kernel_rfl) rfl rfl ?_
 refine (Take_err (some ⟨g, 0, none⟩) fd 9 (by decide) (fun w' hb' => get_bad (HT.out.below hb') fd (tab_no hI.T hno))).mono ?_
 rintro e w22 ⟨rfl, hb⟩
 refine ⟨_, rfl, ?_⟩
 have B23 := hb
 have S24 := S20.call B23
 replace HA5 := rb HA5 B23
 replace HA7 := rb HA7 B23
 replace HE5 := rb HE5 B23
 replace HE7 := rb HE7 B23
 replace HT := tb HT B23
 replace HL := vb HL B23
 refine qv (v := .tuple #[.agg #[.int .i64 0, .int .u32 0, .bool false, .slice none 0 0, .int .i64 0], .int .i64 9]) (r_move rfl) ?_
 refine qv (v := .agg #[.int .i64 0, .int .u32 0, .bool false, .slice none 0 0, .int .i64 0]) (r_extract rfl rfl) ?_
 refine qv (v := .int .i64 9) (r_extract rfl rfl) ?_
 refine qo ?_
 refine e_alloc S24 zro_28 ?_
 intro g25 w26 hg25 S27 B28
 replace HA5 := rb HA5 B28
 replace HA7 := rb HA7 B28
 replace HE5 := rb HE5 B28
 replace HE7 := rb HE7 B28
 replace HT := tb HT B28
 replace HL := vb HL B28
 refine qo ?_
 refine e_store (vs := [.int .i64 0, .int .u32 0, .bool false, .slice none 0 0, .int .i64 0]) (cs' := [.int .i64 0, .int .u32 0, .bool false, .slice none 0 0, .int .i64 0]) S27 rfl rfl rfl rfl sz_28 0 rfl (.inl rfl) rfl rfl rfl ?_
 intro w29 S30 E31
 replace HA5 := rx HA5 E31 (S27.blk 0 rfl)
 replace HA7 := rx HA7 E31 (S27.blk 0 rfl)
 replace HE5 := rx HE5 E31 (S27.blk 0 rfl)
 replace HE7 := rx HE7 E31 (S27.blk 0 rfl)
 replace HT := Aside0.mk (HT.out.move (fun k_ hk_ hl_ => E31.block k_ hl_ (fun e_ => by have o_ := S27.own _ (List.mem_of_getElem? (i := 0) rfl) rfl; try dsimp only at o_ e_; have b_ := hI.okN k_ hk_; omega)))
 replace HL := Aside0.mk (Kd.V_step HL.out (fun k_ hk_ hl_ => E31.block k_ hl_ (fun e_ => by have o_ := S27.own _ (List.mem_of_getElem? (i := 0) rfl) rfl; try dsimp only at o_ e_; have b_ := hI.PN k_ hk_; omega)))
 refine qv (v := .int .i64 9) (r_assign rfl) ?_
 refine q_nil ?_
 refine x_seq ?_
 refine s_seq ?_
 refine s_region ?_
 refine qv (v := .slice (some ad) ((ls ss).length) c) (r_move rfl) ?_
 refine qv (v := .pointer (some ⟨g2, 1, none⟩)) (r_field fld_30_1 rfl rfl) ?_
 refine qv (v := .int .i64 fd) (r_load1 sz_3 rfl (S30.cell 2 rfl rfl)) ?_
 refine qo ?_
 refine e_call (args := [.slice (some ad) ((ls ss).length) c, .int .i64 fd, .int .u32 0]) Try.func20 (by kernel_rfl) rfl rfl ?_
 refine (purlieuref13_Get.calls 40 (some ad) c (ls ss) fd 0 9 _ (LV_C HL.out).1 (LV_C HL.out).2 (rget_bad ss hI.G fd 0 hno)).mono ?_
 rintro e w32 ⟨rfl, hd⟩
 refine ⟨_, rfl, ?_⟩
 have B33 := (Drawn0.below hd)
 have S34 := S30.call B33
 replace HA5 := rb HA5 B33
 replace HA7 := rb HA7 B33
 replace HE5 := rb HE5 B33
 replace HE7 := rb HE7 B33
 replace HT := tb HT B33
 replace HL := vb HL B33
 refine qv (v := .int .i64 9) (r_assign rfl) ?_
 refine q_nil ?_
 refine x_seq ?_
 refine s_seq ?_
 refine s_seq ?_
 refine s_region ?_
 refine qv (v := .int .i64 9) (r_move rfl) ?_
 refine qv (v := .bool true) (r_neq rfl rfl (bne_t (by omega))) ?_
 refine q_nil ?_
 refine x_seq ?_
 refine s_true rfl ?_
 refine s_seq ?_
 refine s_region ?_
 refine qv (v := .slice (some ad) ((ls ss).length) c) (r_move rfl) ?_
 refine qv (v := .int .i64 9) (r_move rfl) ?_
 refine qv (v := .int .i64 9) (r_move rfl) ?_
 refine qv (v := .bool true) (r_eql rfl rfl (beq_t (by omega))) ?_
 refine qv (v := .bool true) (r_move rfl) ?_
 refine q_val (v := .agg #[.int .i64 0, .int .u32 0, .bool false, .slice none 0 0, .int .i64 0]) (wan rfl rfl rfl rfl) rfl (r_loadN (vs := [.int .i64 0, .int .u32 0, .bool false, .slice none 0 0, .int .i64 0]) sz_28 rfl (S34.blk 0 rfl) rfl rfl) ?_
 refine q_val (v := .agg #[.int .i64 0, .int .u32 0, .bool false, .slice none 0 0, .int .i64 0]) (wan rfl rfl rfl rfl) rfl (r_build (ps := []) rfl (by kernel_rfl)) ?_
 refine q_of (wan rfl rfl rfl rfl) ?_
 refine e_call (args := [.agg #[.int .i64 0, .int .u32 0, .bool false, .slice none 0 0, .int .i64 0], .agg #[.int .i64 0, .int .u32 0, .bool false, .slice none 0 0, .int .i64 0]]) Try.func18 (by kernel_rfl) rfl rfl ?_
 refine (purlieuref13_One.calls 1 0 0 false none 0 [] 0 0 0 false none 0 [] 0 true _ (R_C (Kd.R_nil (Kd.int .i64) 3 w32 0 (fun _ => True))).2 (Nat.le_refl _) (R_C (Kd.R_nil (Kd.int .i64) 3 w32 0 (fun _ => True))).2 (Nat.le_refl _) (by decide +kernel)).mono ?_
 rintro e w35 ⟨rfl, hb⟩
 refine ⟨_, rfl, ?_⟩
 have B36 := hb
 have S37 := S34.call B36
 replace HA5 := rb HA5 B36
 replace HA7 := rb HA7 B36
 replace HE5 := rb HE5 B36
 replace HE7 := rb HE7 B36
 replace HT := tb HT B36
 replace HL := vb HL B36
 refine qv (v := .bool true) (r_pick_t rfl rfl) ?_
 refine qv (v := .slice (some ad) ((ls ss).length) c) (r_assign rfl) ?_
 refine qv (v := .bool true) (r_assign rfl) ?_
 refine q_nil ?_
 refine x_seq ?_
 refine s_ret ?_
 refine x_seq_ret ?_
 refine x_blk_ret ?_
 refine x_seq_ret ?_
 refine t_ret2 (v := .slice (some ad) ((ls ss).length) c) (v' := .bool true) rfl rfl rfl ?_
 exact post_same hI S37.ext HT.out HL.out
set_option maxHeartbeats 8000000 in
set_option maxRecDepth 100000 in
theorem Does_Limit_no {w : World} {b g p : Nat} {ok : Nat → Prop} {qs : List (Option Nat)} {ss : List (Option Slot)} {P : Nat → Prop} {ad : Addr} {c : Nat} (hI : DInv w b g p ok qs ss P ad c) (kd fd s0 s1 : Int) (b0 : Bool) (A5 : Option Addr) (c5 : Nat) (l5 : List Int) (s3 : Int) (A7 : Option Addr) (c7 : Nat) (l7 : List Int) (hr5 : Kd.C (Kd.int .i64) w A5 l5.length l5) (hc5 : l5.length ≤ c5) (hr7 : Kd.C (Kd.int .i64) w A7 l7.length l7) (hc7 : l7.length ≤ c7) (hk : kd = 3) (e : Int) (hR : ∀ w'', LV w'' P ad c (ls ss) → (∀ k, P k → k < w''.heap.size) → Calls Try.prog 45 #[.slice (some ad) ((ls ss).length) c, .int .i64 fd, .int .u32 s1] w'' fun e' w' => e' = .returned (.tuple #[.slice (some ad) ((ls ss).length) c, .int .i64 e]) ∧ Below w''.heap.size w'' w') (hT : ∀ w'', TabAt w'' b ok g p qs ss → Calls Try.prog 14 #[.pointer (some ⟨g, 0, none⟩), .int .i64 fd, .int .u32 s1] w'' fun e' w' => e' = .returned (.int .i64 e) ∧ Below w''.heap.size w'' w') : Calls Try.prog 19 #[.pointer (some ⟨g, 0, none⟩), .slice (some ad) ((ls ss).length) c, .agg #[.int .i64 kd, .int .i64 fd, .int .i64 s0, .int .u32 s1, .bool b0, .slice A5 l5.length c5, .int .i64 s3, .slice A7 l7.length c7]] w (Post w b g p ok ss.length P) := by
 have HT := Aside0.mk hI.T
 have HL := Aside0.mk hI.L
 have hll := ls_len ss
 have hfew := hI.few
 have hqs := hI.T.len
 refine s_enter (n := 233) (L := [(0, .pointer (some ⟨g, 0, none⟩)), (1, .slice (some ad) ((ls ss).length) c), (2, .agg #[.int .i64 kd, .int .i64 fd, .int .i64 s0, .int .u32 s1, .bool b0, .slice A5 l5.length c5, .int .i64 s3, .slice A7 l7.length c7])]) Try.func19 rfl rfl rfl rfl ?_
 have S1 := St.start w (ok)
 refine s_seq ?_
 refine s_region ?_
 refine qo ?_
 refine e_box (cs := [.int .i64 kd, .int .i64 fd, .int .i64 s0, .int .u32 s1, .bool b0, .slice A5 l5.length c5, .int .i64 s3, .slice A7 l7.length c7]) S1 rfl rfl ?_
 intro g2 w3 hg2 S4 B5
 replace HT := tb HT B5
 replace HL := vb HL B5
 refine qv (v := .slice none 0 0) (r_assign rfl) ?_
 refine qv (v := .bool false) (r_assign rfl) ?_
 refine q_nil ?_
 refine x_seq ?_
 refine s_seq ?_
 refine s_region ?_
 refine qv (v := .agg #[.int .i64 kd, .int .i64 fd, .int .i64 s0, .int .u32 s1, .bool b0, .slice A5 l5.length c5, .int .i64 s3, .slice A7 l7.length c7]) (r_loadN (vs := [.int .i64 kd, .int .i64 fd, .int .i64 s0, .int .u32 s1, .bool b0, .slice A5 l5.length c5, .int .i64 s3, .slice A7 l7.length c7]) sz_30 rfl (S4.blk 0 rfl) rfl rfl) ?_
 refine qo ?_
 refine e_call (args := [.agg #[.int .i64 kd, .int .i64 fd, .int .i64 s0, .int .u32 s1, .bool b0, .slice A5 l5.length c5, .int .i64 s3, .slice A7 l7.length c7]]) Try.func13 (by kernel_rfl) rfl rfl ?_
 refine (own_cut kd fd s0 s1 b0 A5 c5 l5 s3 A7 c7 l7 _ (Kd.C_below hr5 B5) hc5 (Kd.C_below hr7 B5) hc7).mono ?_
 rintro e w6 ⟨m5, m7, Ba5, da5, Ba7, da7, ⟨hm5, hm7⟩, hl5, hl7, rfl, ho5, ho7, hb⟩
 refine ⟨_, rfl, ?_⟩
 have B7 := hb
 have S8 := S4.call B7
 replace HT := tb HT B7
 replace HL := vb HL B7
 have HA5 := Aside0.mk ho5
 have HA7 := Aside0.mk ho7
 clear ho5 ho7
 have HBa := S4.ext.size
 refine qo ?_
 refine e_store (vs := [.int .i64 kd, .int .i64 fd, .int .i64 s0, .int .u32 s1, .bool b0, .slice Ba5 m5.length da5, .int .i64 s3, .slice Ba7 m7.length da7]) (cs' := [.int .i64 kd, .int .i64 fd, .int .i64 s0, .int .u32 s1, .bool b0, .slice Ba5 m5.length da5, .int .i64 s3, .slice Ba7 m7.length da7]) S8 rfl rfl rfl rfl sz_30 0 rfl (.inl rfl) rfl rfl rfl ?_
 intro w9 S10 E11
 replace HA5 := rx HA5 E11 (S8.blk 0 rfl)
 replace HA7 := rx HA7 E11 (S8.blk 0 rfl)
 replace HT := Aside0.mk (HT.out.move (fun k_ hk_ hl_ => E11.block k_ hl_ (fun e_ => by have o_ := S8.own _ (List.mem_of_getElem? (i := 0) rfl) rfl; try dsimp only at o_ e_; have b_ := hI.okN k_ hk_; omega)))
 replace HL := Aside0.mk (Kd.V_step HL.out (fun k_ hk_ hl_ => E11.block k_ hl_ (fun e_ => by have o_ := S8.own _ (List.mem_of_getElem? (i := 0) rfl) rfl; try dsimp only at o_ e_; have b_ := hI.PN k_ hk_; omega)))
 refine q_nil ?_
 refine x_seq ?_
 refine s_seq ?_
 refine s_region ?_
 refine qv (v := .agg #[.int .i64 kd, .int .i64 fd, .int .i64 s0, .int .u32 s1, .bool b0, .slice Ba5 m5.length da5, .int .i64 s3, .slice Ba7 m7.length da7]) (r_loadN (vs := [.int .i64 kd, .int .i64 fd, .int .i64 s0, .int .u32 s1, .bool b0, .slice Ba5 m5.length da5, .int .i64 s3, .slice Ba7 m7.length da7]) sz_30 rfl (S10.blk 0 rfl) rfl rfl) ?_
 refine qo ?_
 refine e_call (args := [.agg #[.int .i64 kd, .int .i64 fd, .int .i64 s0, .int .u32 s1, .bool b0, .slice Ba5 m5.length da5, .int .i64 s3, .slice Ba7 m7.length da7]]) Try.func13 (by kernel_rfl) rfl rfl ?_
 refine (own_same kd fd s0 s1 b0 Ba5 da5 m5 s3 Ba7 da7 m7 _ (R_C HA5.out).2 (R_C HA5.out).1 (R_C HA7.out).2 (R_C HA7.out).1 hl5 hl7).mono ?_
 rintro e w12 ⟨Be5, de5, Be7, de7, rfl, ho5, ho7, hb⟩
 refine ⟨_, rfl, ?_⟩
 have B13 := hb
 have S14 := S10.call B13
 replace HA5 := rb HA5 B13
 replace HA7 := rb HA7 B13
 replace HT := tb HT B13
 replace HL := vb HL B13
 have HE5 := Aside0.mk ho5
 have HE7 := Aside0.mk ho7
 clear ho5 ho7
 refine qo ?_
 refine e_alloc S14 zro_30 ?_
 intro g15 w16 hg15 S17 B18
 replace HA5 := rb HA5 B18
 replace HA7 := rb HA7 B18
 replace HE5 := rb HE5 B18
 replace HE7 := rb HE7 B18
 replace HT := tb HT B18
 replace HL := vb HL B18
 refine qo ?_
 refine e_store (vs := [.int .i64 kd, .int .i64 fd, .int .i64 s0, .int .u32 s1, .bool b0, .slice Be5 m5.length de5, .int .i64 s3, .slice Be7 m7.length de7]) (cs' := [.int .i64 kd, .int .i64 fd, .int .i64 s0, .int .u32 s1, .bool b0, .slice Be5 m5.length de5, .int .i64 s3, .slice Be7 m7.length de7]) S17 rfl rfl rfl rfl sz_30 0 rfl (.inl rfl) rfl rfl rfl ?_
 intro w19 S20 E21
 replace HA5 := rx HA5 E21 (S17.blk 0 rfl)
 replace HA7 := rx HA7 E21 (S17.blk 0 rfl)
 replace HE5 := rx HE5 E21 (S17.blk 0 rfl)
 replace HE7 := rx HE7 E21 (S17.blk 0 rfl)
 replace HT := Aside0.mk (HT.out.move (fun k_ hk_ hl_ => E21.block k_ hl_ (fun e_ => by have o_ := S17.own _ (List.mem_of_getElem? (i := 0) rfl) rfl; try dsimp only at o_ e_; have b_ := hI.okN k_ hk_; omega)))
 replace HL := Aside0.mk (Kd.V_step HL.out (fun k_ hk_ hl_ => E21.block k_ hl_ (fun e_ => by have o_ := S17.own _ (List.mem_of_getElem? (i := 0) rfl) rfl; try dsimp only at o_ e_; have b_ := hI.PN k_ hk_; omega)))
 refine q_nil ?_
 refine x_seq ?_
 refine s_seq ?_
 refine s_seq ?_
 refine s_region ?_
 refine qv (v := .pointer (some ⟨g2, 0, none⟩)) (r_field fld_30_0 rfl rfl) ?_
 refine qv (v := .int .i64 kd) (r_load1 sz_3 rfl (S20.cell 1 rfl rfl)) ?_
 refine q_nil ?_
 refine x_seq ?_
 refine s_block ?_
 refine s_seq ?_
 refine s_region ?_
 refine qv (v := .bool false) (r_eql rfl rfl (beq_f (by omega))) ?_
 refine qv (v := .bool false) (r_assign rfl) ?_
 refine q_nil ?_
 refine x_seq ?_
 refine s_false rfl ?_
 refine s_seq ?_
 refine s_region ?_
 refine qv (v := .bool false) (r_eql rfl rfl (beq_f (by omega))) ?_
 refine qv (v := .bool false) (r_assign rfl) ?_
 refine q_nil ?_
 refine x_seq ?_
 refine s_false rfl ?_
 refine s_seq ?_
 refine s_region ?_
 refine qv (v := .bool true) (r_eql rfl rfl (beq_t (by omega))) ?_
 refine qv (v := .bool true) (r_assign rfl) ?_
 refine q_nil ?_
 refine x_seq ?_
 refine s_true rfl ?_
 refine s_seq ?_
 refine s_region ?_
 refine qv (v := .slice (some ad) ((ls ss).length) c) (r_move rfl) ?_
 refine qv (v := .pointer (some ⟨g2, 1, none⟩)) (r_field fld_30_1 rfl rfl) ?_
 refine qv (v := .int .i64 fd) (r_load1 sz_3 rfl (S20.cell 1 rfl rfl)) ?_
 refine qv (v := .pointer (some ⟨g2, 2, none⟩)) (r_field fld_30_2 rfl rfl) ?_
 refine qv (v := .pointer (some ⟨g2, 3, none⟩)) (r_field fld_28_1 rfl rfl) ?_
 refine qv (v := .int .u32 s1) (r_load1 sz_23 rfl (S20.cell 1 rfl rfl)) ?_
 refine qo ?_
 refine e_call (args := [.slice (some ad) ((ls ss).length) c, .int .i64 fd, .int .u32 s1]) Try.func45 (by kernel_rfl) rfl rfl ?_
 refine (hR _ HL.out (fun k_ hk_ => Nat.lt_of_lt_of_le (hI.PN k_ hk_) S20.ext.size)).mono ?_
 rintro e w22 ⟨rfl, hb⟩
 refine ⟨_, rfl, ?_⟩
 have B23 := hb
 have S24 := S20.call B23
 replace HA5 := rb HA5 B23
 replace HA7 := rb HA7 B23
 replace HE5 := rb HE5 B23
 replace HE7 := rb HE7 B23
 replace HT := tb HT B23
 replace HL := vb HL B23
 refine qv (v := .tuple #[.slice (some ad) ((ls ss).length) c, .int .i64 e]) (r_move rfl) ?_
 refine qv (v := .slice (some ad) ((ls ss).length) c) (r_extract rfl rfl) ?_
 refine qv (v := .int .i64 e) (r_extract rfl rfl) ?_
 refine qv (v := .slice (some ad) ((ls ss).length) c) (r_assign rfl) ?_
 refine qv (v := .int .i64 e) (r_assign rfl) ?_
 refine q_nil ?_
 refine x_seq ?_
 refine s_seq ?_
 refine s_region ?_
 refine qv (v := .slice (some ad) ((ls ss).length) c) (r_move rfl) ?_
 refine qv (v := .pointer (some ⟨g, 0, none⟩)) (r_move rfl) ?_
 refine qv (v := .pointer (some ⟨g15, 1, none⟩)) (r_field fld_30_1 rfl rfl) ?_
 refine qv (v := .int .i64 fd) (r_load1 sz_3 rfl (S24.cell 0 rfl rfl)) ?_
 refine qv (v := .pointer (some ⟨g15, 2, none⟩)) (r_field fld_30_2 rfl rfl) ?_
 refine qv (v := .pointer (some ⟨g15, 3, none⟩)) (r_field fld_28_1 rfl rfl) ?_
 refine qv (v := .int .u32 s1) (r_load1 sz_23 rfl (S24.cell 0 rfl rfl)) ?_
 refine qo ?_
 refine e_call (args := [.pointer (some ⟨g, 0, none⟩), .int .i64 fd, .int .u32 s1]) Try.func14 (by kernel_rfl) rfl rfl ?_
 refine (hT _ HT.out).mono ?_
 rintro e w25 ⟨rfl, hb⟩
 refine ⟨_, rfl, ?_⟩
 have B26 := hb
 have S27 := S24.call B26
 replace HA5 := rb HA5 B26
 replace HA7 := rb HA7 B26
 replace HE5 := rb HE5 B26
 replace HE7 := rb HE7 B26
 replace HT := tb HT B26
 replace HL := vb HL B26
 refine qv (v := .int .i64 e) (r_move rfl) ?_
 refine qv (v := .bool true) (r_eql rfl rfl (beq_t (rfl))) ?_
 refine qv (v := .slice (some ad) ((ls ss).length) c) (r_assign rfl) ?_
 refine qv (v := .bool true) (r_assign rfl) ?_
 refine q_nil ?_
 refine x_seq ?_
 refine s_ret ?_
 refine x_blk_ret ?_
 refine x_seq_ret ?_
 refine t_ret2 (v := .slice (some ad) ((ls ss).length) c) (v' := .bool true) rfl rfl rfl ?_
 exact post_same hI S27.ext HT.out HL.out
set_option maxHeartbeats 8000000 in
set_option maxRecDepth 100000 in
theorem Does_LimitIoctls_no {w : World} {b g p : Nat} {ok : Nat → Prop} {qs : List (Option Nat)} {ss : List (Option Slot)} {P : Nat → Prop} {ad : Addr} {c : Nat} (hI : DInv w b g p ok qs ss P ad c) (kd fd s0 s1 : Int) (b0 : Bool) (A5 : Option Addr) (c5 : Nat) (l5 : List Int) (s3 : Int) (A7 : Option Addr) (c7 : Nat) (l7 : List Int) (hr5 : Kd.C (Kd.int .i64) w A5 l5.length l5) (hc5 : l5.length ≤ c5) (hr7 : Kd.C (Kd.int .i64) w A7 l7.length l7) (hc7 : l7.length ≤ c7) (hk : kd = 4) (e : Int) (hR : ∀ w'', LV w'' P ad c (ls ss) → (∀ k, P k → k < w''.heap.size) → ∀ A d, Kd.C (Kd.int .i64) w'' A (cut50 l7).length (cut50 l7) → (cut50 l7).length ≤ d → Calls Try.prog 46 #[.slice (some ad) ((ls ss).length) c, .int .i64 fd, .slice A (cut50 l7).length d] w'' fun e' w' => e' = .returned (.tuple #[.slice (some ad) ((ls ss).length) c, .int .i64 e]) ∧ Below w''.heap.size w'' w') (hT : ∀ w'', TabAt w'' b ok g p qs ss → ∀ A c, Kd.C (Kd.int .i64) w'' A (cut50 l7).length (cut50 l7) → (cut50 l7).length ≤ c → Calls Try.prog 15 #[.pointer (some ⟨g, 0, none⟩), .int .i64 fd, .slice A (cut50 l7).length c] w'' fun e' w' => e' = .returned (.int .i64 e) ∧ Below w''.heap.size w'' w') : Calls Try.prog 19 #[.pointer (some ⟨g, 0, none⟩), .slice (some ad) ((ls ss).length) c, .agg #[.int .i64 kd, .int .i64 fd, .int .i64 s0, .int .u32 s1, .bool b0, .slice A5 l5.length c5, .int .i64 s3, .slice A7 l7.length c7]] w (Post w b g p ok ss.length P) := by
 have HT := Aside0.mk hI.T
 have HL := Aside0.mk hI.L
 have hll := ls_len ss
 have hfew := hI.few
 have hqs := hI.T.len
 refine s_enter (n := 233) (L := [(0, .pointer (some ⟨g, 0, none⟩)), (1, .slice (some ad) ((ls ss).length) c), (2, .agg #[.int .i64 kd, .int .i64 fd, .int .i64 s0, .int .u32 s1, .bool b0, .slice A5 l5.length c5, .int .i64 s3, .slice A7 l7.length c7])]) Try.func19 rfl rfl rfl rfl ?_
 have S1 := St.start w (ok)
 refine s_seq ?_
 refine s_region ?_
 refine qo ?_
 refine e_box (cs := [.int .i64 kd, .int .i64 fd, .int .i64 s0, .int .u32 s1, .bool b0, .slice A5 l5.length c5, .int .i64 s3, .slice A7 l7.length c7]) S1 rfl rfl ?_
 intro g2 w3 hg2 S4 B5
 replace HT := tb HT B5
 replace HL := vb HL B5
 refine qv (v := .slice none 0 0) (r_assign rfl) ?_
 refine qv (v := .bool false) (r_assign rfl) ?_
 refine q_nil ?_
 refine x_seq ?_
 refine s_seq ?_
 refine s_region ?_
 refine qv (v := .agg #[.int .i64 kd, .int .i64 fd, .int .i64 s0, .int .u32 s1, .bool b0, .slice A5 l5.length c5, .int .i64 s3, .slice A7 l7.length c7]) (r_loadN (vs := [.int .i64 kd, .int .i64 fd, .int .i64 s0, .int .u32 s1, .bool b0, .slice A5 l5.length c5, .int .i64 s3, .slice A7 l7.length c7]) sz_30 rfl (S4.blk 0 rfl) rfl rfl) ?_
 refine qo ?_
 refine e_call (args := [.agg #[.int .i64 kd, .int .i64 fd, .int .i64 s0, .int .u32 s1, .bool b0, .slice A5 l5.length c5, .int .i64 s3, .slice A7 l7.length c7]]) Try.func13 (by kernel_rfl) rfl rfl ?_
 refine (own_cut kd fd s0 s1 b0 A5 c5 l5 s3 A7 c7 l7 _ (Kd.C_below hr5 B5) hc5 (Kd.C_below hr7 B5) hc7).mono ?_
 rintro e w6 ⟨m5, m7, Ba5, da5, Ba7, da7, ⟨hm5, hm7⟩, hl5, hl7, rfl, ho5, ho7, hb⟩
 refine ⟨_, rfl, ?_⟩
 have B7 := hb
 have S8 := S4.call B7
 replace HT := tb HT B7
 replace HL := vb HL B7
 have HA5 := Aside0.mk ho5
 have HA7 := Aside0.mk ho7
 clear ho5 ho7
 have HBa := S4.ext.size
 rw [← hm7] at hR hT
 refine qo ?_
 refine e_store (vs := [.int .i64 kd, .int .i64 fd, .int .i64 s0, .int .u32 s1, .bool b0, .slice Ba5 m5.length da5, .int .i64 s3, .slice Ba7 m7.length da7]) (cs' := [.int .i64 kd, .int .i64 fd, .int .i64 s0, .int .u32 s1, .bool b0, .slice Ba5 m5.length da5, .int .i64 s3, .slice Ba7 m7.length da7]) S8 rfl rfl rfl rfl sz_30 0 rfl (.inl rfl) rfl rfl rfl ?_
 intro w9 S10 E11
 replace HA5 := rx HA5 E11 (S8.blk 0 rfl)
 replace HA7 := rx HA7 E11 (S8.blk 0 rfl)
 replace HT := Aside0.mk (HT.out.move (fun k_ hk_ hl_ => E11.block k_ hl_ (fun e_ => by have o_ := S8.own _ (List.mem_of_getElem? (i := 0) rfl) rfl; try dsimp only at o_ e_; have b_ := hI.okN k_ hk_; omega)))
 replace HL := Aside0.mk (Kd.V_step HL.out (fun k_ hk_ hl_ => E11.block k_ hl_ (fun e_ => by have o_ := S8.own _ (List.mem_of_getElem? (i := 0) rfl) rfl; try dsimp only at o_ e_; have b_ := hI.PN k_ hk_; omega)))
 refine q_nil ?_
 refine x_seq ?_
 refine s_seq ?_
 refine s_region ?_
 refine qv (v := .agg #[.int .i64 kd, .int .i64 fd, .int .i64 s0, .int .u32 s1, .bool b0, .slice Ba5 m5.length da5, .int .i64 s3, .slice Ba7 m7.length da7]) (r_loadN (vs := [.int .i64 kd, .int .i64 fd, .int .i64 s0, .int .u32 s1, .bool b0, .slice Ba5 m5.length da5, .int .i64 s3, .slice Ba7 m7.length da7]) sz_30 rfl (S10.blk 0 rfl) rfl rfl) ?_
 refine qo ?_
 refine e_call (args := [.agg #[.int .i64 kd, .int .i64 fd, .int .i64 s0, .int .u32 s1, .bool b0, .slice Ba5 m5.length da5, .int .i64 s3, .slice Ba7 m7.length da7]]) Try.func13 (by kernel_rfl) rfl rfl ?_
 refine (own_same kd fd s0 s1 b0 Ba5 da5 m5 s3 Ba7 da7 m7 _ (R_C HA5.out).2 (R_C HA5.out).1 (R_C HA7.out).2 (R_C HA7.out).1 hl5 hl7).mono ?_
 rintro e w12 ⟨Be5, de5, Be7, de7, rfl, ho5, ho7, hb⟩
 refine ⟨_, rfl, ?_⟩
 have B13 := hb
 have S14 := S10.call B13
 replace HA5 := rb HA5 B13
 replace HA7 := rb HA7 B13
 replace HT := tb HT B13
 replace HL := vb HL B13
 have HE5 := Aside0.mk ho5
 have HE7 := Aside0.mk ho7
 clear ho5 ho7
 refine qo ?_
 refine e_alloc S14 zro_30 ?_
 intro g15 w16 hg15 S17 B18
 replace HA5 := rb HA5 B18
 replace HA7 := rb HA7 B18
 replace HE5 := rb HE5 B18
 replace HE7 := rb HE7 B18
 replace HT := tb HT B18
 replace HL := vb HL B18
 refine qo ?_
 refine e_store (vs := [.int .i64 kd, .int .i64 fd, .int .i64 s0, .int .u32 s1, .bool b0, .slice Be5 m5.length de5, .int .i64 s3, .slice Be7 m7.length de7]) (cs' := [.int .i64 kd, .int .i64 fd, .int .i64 s0, .int .u32 s1, .bool b0, .slice Be5 m5.length de5, .int .i64 s3, .slice Be7 m7.length de7]) S17 rfl rfl rfl rfl sz_30 0 rfl (.inl rfl) rfl rfl rfl ?_
 intro w19 S20 E21
 replace HA5 := rx HA5 E21 (S17.blk 0 rfl)
 replace HA7 := rx HA7 E21 (S17.blk 0 rfl)
 replace HE5 := rx HE5 E21 (S17.blk 0 rfl)
 replace HE7 := rx HE7 E21 (S17.blk 0 rfl)
 replace HT := Aside0.mk (HT.out.move (fun k_ hk_ hl_ => E21.block k_ hl_ (fun e_ => by have o_ := S17.own _ (List.mem_of_getElem? (i := 0) rfl) rfl; try dsimp only at o_ e_; have b_ := hI.okN k_ hk_; omega)))
 replace HL := Aside0.mk (Kd.V_step HL.out (fun k_ hk_ hl_ => E21.block k_ hl_ (fun e_ => by have o_ := S17.own _ (List.mem_of_getElem? (i := 0) rfl) rfl; try dsimp only at o_ e_; have b_ := hI.PN k_ hk_; omega)))
 refine q_nil ?_
 refine x_seq ?_
 refine s_seq ?_
 refine s_seq ?_
 refine s_region ?_
 refine qv (v := .pointer (some ⟨g2, 0, none⟩)) (r_field fld_30_0 rfl rfl) ?_
 refine qv (v := .int .i64 kd) (r_load1 sz_3 rfl (S20.cell 1 rfl rfl)) ?_
 refine q_nil ?_
 refine x_seq ?_
 refine s_block ?_
 refine s_seq ?_
 refine s_region ?_
 refine qv (v := .bool false) (r_eql rfl rfl (beq_f (by omega))) ?_
 refine qv (v := .bool false) (r_assign rfl) ?_
 refine q_nil ?_
 refine x_seq ?_
 refine s_false rfl ?_
 refine s_seq ?_
 refine s_region ?_
 refine qv (v := .bool false) (r_eql rfl rfl (beq_f (by omega))) ?_
 refine qv (v := .bool false) (r_assign rfl) ?_
 refine q_nil ?_
 refine x_seq ?_
 refine s_false rfl ?_
 refine s_seq ?_
 refine s_region ?_
 refine qv (v := .bool false) (r_eql rfl rfl (beq_f (by omega))) ?_
 refine qv (v := .bool false) (r_assign rfl) ?_
 refine q_nil ?_
 refine x_seq ?_
 refine s_false rfl ?_
 refine s_seq ?_
 refine s_region ?_
 refine qv (v := .bool true) (r_eql rfl rfl (beq_t (by omega))) ?_
 refine qv (v := .bool true) (r_assign rfl) ?_
 refine q_nil ?_
 refine x_seq ?_
 refine s_true rfl ?_
 refine s_seq ?_
 refine s_region ?_
 refine qv (v := .slice (some ad) ((ls ss).length) c) (r_move rfl) ?_
 refine qv (v := .pointer (some ⟨g2, 1, none⟩)) (r_field fld_30_1 rfl rfl) ?_
 refine qv (v := .int .i64 fd) (r_load1 sz_3 rfl (S20.cell 1 rfl rfl)) ?_
 refine qv (v := .pointer (some ⟨g2, 7, none⟩)) (r_field fld_30_3 rfl rfl) ?_
 refine qv (v := .slice Ba7 m7.length da7) (r_load1 sz_24 rfl (S20.cell 1 rfl rfl)) ?_
 refine qo ?_
 refine e_call (args := [.slice (some ad) ((ls ss).length) c, .int .i64 fd, .slice Ba7 m7.length da7]) Try.func46 (by kernel_rfl) rfl rfl ?_
 refine (hR _ HL.out (fun k_ hk_ => Nat.lt_of_lt_of_le (hI.PN k_ hk_) S20.ext.size) Ba7 da7 (R_C HA7.out).2 (R_C HA7.out).1).mono ?_
 rintro e w22 ⟨rfl, hb⟩
 refine ⟨_, rfl, ?_⟩
 have B23 := hb
 have S24 := S20.call B23
 replace HA5 := rb HA5 B23
 replace HA7 := rb HA7 B23
 replace HE5 := rb HE5 B23
 replace HE7 := rb HE7 B23
 replace HT := tb HT B23
 replace HL := vb HL B23
 refine qv (v := .tuple #[.slice (some ad) ((ls ss).length) c, .int .i64 e]) (r_move rfl) ?_
 refine qv (v := .slice (some ad) ((ls ss).length) c) (r_extract rfl rfl) ?_
 refine qv (v := .int .i64 e) (r_extract rfl rfl) ?_
 refine qv (v := .slice (some ad) ((ls ss).length) c) (r_assign rfl) ?_
 refine qv (v := .int .i64 e) (r_assign rfl) ?_
 refine q_nil ?_
 refine x_seq ?_
 refine s_seq ?_
 refine s_region ?_
 refine qv (v := .slice (some ad) ((ls ss).length) c) (r_move rfl) ?_
 refine qv (v := .pointer (some ⟨g, 0, none⟩)) (r_move rfl) ?_
 refine qv (v := .pointer (some ⟨g15, 1, none⟩)) (r_field fld_30_1 rfl rfl) ?_
 refine qv (v := .int .i64 fd) (r_load1 sz_3 rfl (S24.cell 0 rfl rfl)) ?_
 refine qv (v := .pointer (some ⟨g15, 7, none⟩)) (r_field fld_30_3 rfl rfl) ?_
 refine qv (v := .slice Be7 m7.length de7) (r_load1 sz_24 rfl (S24.cell 0 rfl rfl)) ?_
 refine qo ?_
 refine e_call (args := [.pointer (some ⟨g, 0, none⟩), .int .i64 fd, .slice Be7 m7.length de7]) Try.func15 (by kernel_rfl) rfl rfl ?_
 refine (hT _ HT.out Be7 de7 (R_C HE7.out).2 (R_C HE7.out).1).mono ?_
 rintro e w25 ⟨rfl, hb⟩
 refine ⟨_, rfl, ?_⟩
 have B26 := hb
 have S27 := S24.call B26
 replace HA5 := rb HA5 B26
 replace HA7 := rb HA7 B26
 replace HE5 := rb HE5 B26
 replace HE7 := rb HE7 B26
 replace HT := tb HT B26
 replace HL := vb HL B26
 refine qv (v := .int .i64 e) (r_move rfl) ?_
 refine qv (v := .bool true) (r_eql rfl rfl (beq_t (rfl))) ?_
 refine qv (v := .slice (some ad) ((ls ss).length) c) (r_assign rfl) ?_
 refine qv (v := .bool true) (r_assign rfl) ?_
 refine q_nil ?_
 refine x_seq ?_
 refine s_ret ?_
 refine x_blk_ret ?_
 refine x_seq_ret ?_
 refine t_ret2 (v := .slice (some ad) ((ls ss).length) c) (v' := .bool true) rfl rfl rfl ?_
 exact post_same hI S27.ext HT.out HL.out
set_option maxHeartbeats 8000000 in
set_option maxRecDepth 100000 in
theorem Does_LimitFcntls_no {w : World} {b g p : Nat} {ok : Nat → Prop} {qs : List (Option Nat)} {ss : List (Option Slot)} {P : Nat → Prop} {ad : Addr} {c : Nat} (hI : DInv w b g p ok qs ss P ad c) (kd fd s0 s1 : Int) (b0 : Bool) (A5 : Option Addr) (c5 : Nat) (l5 : List Int) (s3 : Int) (A7 : Option Addr) (c7 : Nat) (l7 : List Int) (hr5 : Kd.C (Kd.int .i64) w A5 l5.length l5) (hc5 : l5.length ≤ c5) (hr7 : Kd.C (Kd.int .i64) w A7 l7.length l7) (hc7 : l7.length ≤ c7) (hk : kd = 5) (e : Int) (hR : ∀ w'', LV w'' P ad c (ls ss) → (∀ k, P k → k < w''.heap.size) → Calls Try.prog 47 #[.slice (some ad) ((ls ss).length) c, .int .i64 fd, .int .i64 s3] w'' fun e' w' => e' = .returned (.tuple #[.slice (some ad) ((ls ss).length) c, .int .i64 e]) ∧ Below w''.heap.size w'' w') (hT : ∀ w'', TabAt w'' b ok g p qs ss → Calls Try.prog 16 #[.pointer (some ⟨g, 0, none⟩), .int .i64 fd, .int .i64 s3] w'' fun e' w' => e' = .returned (.int .i64 e) ∧ Below w''.heap.size w'' w') : Calls Try.prog 19 #[.pointer (some ⟨g, 0, none⟩), .slice (some ad) ((ls ss).length) c, .agg #[.int .i64 kd, .int .i64 fd, .int .i64 s0, .int .u32 s1, .bool b0, .slice A5 l5.length c5, .int .i64 s3, .slice A7 l7.length c7]] w (Post w b g p ok ss.length P) := by
 have HT := Aside0.mk hI.T
 have HL := Aside0.mk hI.L
 have hll := ls_len ss
 have hfew := hI.few
 have hqs := hI.T.len
 refine s_enter (n := 233) (L := [(0, .pointer (some ⟨g, 0, none⟩)), (1, .slice (some ad) ((ls ss).length) c), (2, .agg #[.int .i64 kd, .int .i64 fd, .int .i64 s0, .int .u32 s1, .bool b0, .slice A5 l5.length c5, .int .i64 s3, .slice A7 l7.length c7])]) Try.func19 rfl rfl rfl rfl ?_
 have S1 := St.start w (ok)
 refine s_seq ?_
 refine s_region ?_
 refine qo ?_
 refine e_box (cs := [.int .i64 kd, .int .i64 fd, .int .i64 s0, .int .u32 s1, .bool b0, .slice A5 l5.length c5, .int .i64 s3, .slice A7 l7.length c7]) S1 rfl rfl ?_
 intro g2 w3 hg2 S4 B5
 replace HT := tb HT B5
 replace HL := vb HL B5
 refine qv (v := .slice none 0 0) (r_assign rfl) ?_
 refine qv (v := .bool false) (r_assign rfl) ?_
 refine q_nil ?_
 refine x_seq ?_
 refine s_seq ?_
 refine s_region ?_
 refine qv (v := .agg #[.int .i64 kd, .int .i64 fd, .int .i64 s0, .int .u32 s1, .bool b0, .slice A5 l5.length c5, .int .i64 s3, .slice A7 l7.length c7]) (r_loadN (vs := [.int .i64 kd, .int .i64 fd, .int .i64 s0, .int .u32 s1, .bool b0, .slice A5 l5.length c5, .int .i64 s3, .slice A7 l7.length c7]) sz_30 rfl (S4.blk 0 rfl) rfl rfl) ?_
 refine qo ?_
 refine e_call (args := [.agg #[.int .i64 kd, .int .i64 fd, .int .i64 s0, .int .u32 s1, .bool b0, .slice A5 l5.length c5, .int .i64 s3, .slice A7 l7.length c7]]) Try.func13 (by kernel_rfl) rfl rfl ?_
 refine (own_cut kd fd s0 s1 b0 A5 c5 l5 s3 A7 c7 l7 _ (Kd.C_below hr5 B5) hc5 (Kd.C_below hr7 B5) hc7).mono ?_
 rintro e w6 ⟨m5, m7, Ba5, da5, Ba7, da7, ⟨hm5, hm7⟩, hl5, hl7, rfl, ho5, ho7, hb⟩
 refine ⟨_, rfl, ?_⟩
 have B7 := hb
 have S8 := S4.call B7
 replace HT := tb HT B7
 replace HL := vb HL B7
 have HA5 := Aside0.mk ho5
 have HA7 := Aside0.mk ho7
 clear ho5 ho7
 have HBa := S4.ext.size
 refine qo ?_
 refine e_store (vs := [.int .i64 kd, .int .i64 fd, .int .i64 s0, .int .u32 s1, .bool b0, .slice Ba5 m5.length da5, .int .i64 s3, .slice Ba7 m7.length da7]) (cs' := [.int .i64 kd, .int .i64 fd, .int .i64 s0, .int .u32 s1, .bool b0, .slice Ba5 m5.length da5, .int .i64 s3, .slice Ba7 m7.length da7]) S8 rfl rfl rfl rfl sz_30 0 rfl (.inl rfl) rfl rfl rfl ?_
 intro w9 S10 E11
 replace HA5 := rx HA5 E11 (S8.blk 0 rfl)
 replace HA7 := rx HA7 E11 (S8.blk 0 rfl)
 replace HT := Aside0.mk (HT.out.move (fun k_ hk_ hl_ => E11.block k_ hl_ (fun e_ => by have o_ := S8.own _ (List.mem_of_getElem? (i := 0) rfl) rfl; try dsimp only at o_ e_; have b_ := hI.okN k_ hk_; omega)))
 replace HL := Aside0.mk (Kd.V_step HL.out (fun k_ hk_ hl_ => E11.block k_ hl_ (fun e_ => by have o_ := S8.own _ (List.mem_of_getElem? (i := 0) rfl) rfl; try dsimp only at o_ e_; have b_ := hI.PN k_ hk_; omega)))
 refine q_nil ?_
 refine x_seq ?_
 refine s_seq ?_
 refine s_region ?_
 refine qv (v := .agg #[.int .i64 kd, .int .i64 fd, .int .i64 s0, .int .u32 s1, .bool b0, .slice Ba5 m5.length da5, .int .i64 s3, .slice Ba7 m7.length da7]) (r_loadN (vs := [.int .i64 kd, .int .i64 fd, .int .i64 s0, .int .u32 s1, .bool b0, .slice Ba5 m5.length da5, .int .i64 s3, .slice Ba7 m7.length da7]) sz_30 rfl (S10.blk 0 rfl) rfl rfl) ?_
 refine qo ?_
 refine e_call (args := [.agg #[.int .i64 kd, .int .i64 fd, .int .i64 s0, .int .u32 s1, .bool b0, .slice Ba5 m5.length da5, .int .i64 s3, .slice Ba7 m7.length da7]]) Try.func13 (by kernel_rfl) rfl rfl ?_
 refine (own_same kd fd s0 s1 b0 Ba5 da5 m5 s3 Ba7 da7 m7 _ (R_C HA5.out).2 (R_C HA5.out).1 (R_C HA7.out).2 (R_C HA7.out).1 hl5 hl7).mono ?_
 rintro e w12 ⟨Be5, de5, Be7, de7, rfl, ho5, ho7, hb⟩
 refine ⟨_, rfl, ?_⟩
 have B13 := hb
 have S14 := S10.call B13
 replace HA5 := rb HA5 B13
 replace HA7 := rb HA7 B13
 replace HT := tb HT B13
 replace HL := vb HL B13
 have HE5 := Aside0.mk ho5
 have HE7 := Aside0.mk ho7
 clear ho5 ho7
 refine qo ?_
 refine e_alloc S14 zro_30 ?_
 intro g15 w16 hg15 S17 B18
 replace HA5 := rb HA5 B18
 replace HA7 := rb HA7 B18
 replace HE5 := rb HE5 B18
 replace HE7 := rb HE7 B18
 replace HT := tb HT B18
 replace HL := vb HL B18
 refine qo ?_
 refine e_store (vs := [.int .i64 kd, .int .i64 fd, .int .i64 s0, .int .u32 s1, .bool b0, .slice Be5 m5.length de5, .int .i64 s3, .slice Be7 m7.length de7]) (cs' := [.int .i64 kd, .int .i64 fd, .int .i64 s0, .int .u32 s1, .bool b0, .slice Be5 m5.length de5, .int .i64 s3, .slice Be7 m7.length de7]) S17 rfl rfl rfl rfl sz_30 0 rfl (.inl rfl) rfl rfl rfl ?_
 intro w19 S20 E21
 replace HA5 := rx HA5 E21 (S17.blk 0 rfl)
 replace HA7 := rx HA7 E21 (S17.blk 0 rfl)
 replace HE5 := rx HE5 E21 (S17.blk 0 rfl)
 replace HE7 := rx HE7 E21 (S17.blk 0 rfl)
 replace HT := Aside0.mk (HT.out.move (fun k_ hk_ hl_ => E21.block k_ hl_ (fun e_ => by have o_ := S17.own _ (List.mem_of_getElem? (i := 0) rfl) rfl; try dsimp only at o_ e_; have b_ := hI.okN k_ hk_; omega)))
 replace HL := Aside0.mk (Kd.V_step HL.out (fun k_ hk_ hl_ => E21.block k_ hl_ (fun e_ => by have o_ := S17.own _ (List.mem_of_getElem? (i := 0) rfl) rfl; try dsimp only at o_ e_; have b_ := hI.PN k_ hk_; omega)))
 refine q_nil ?_
 refine x_seq ?_
 refine s_seq ?_
 refine s_seq ?_
 refine s_region ?_
 refine qv (v := .pointer (some ⟨g2, 0, none⟩)) (r_field fld_30_0 rfl rfl) ?_
 refine qv (v := .int .i64 kd) (r_load1 sz_3 rfl (S20.cell 1 rfl rfl)) ?_
 refine q_nil ?_
 refine x_seq ?_
 refine s_block ?_
 refine s_seq ?_
 refine s_region ?_
 refine qv (v := .bool false) (r_eql rfl rfl (beq_f (by omega))) ?_
 refine qv (v := .bool false) (r_assign rfl) ?_
 refine q_nil ?_
 refine x_seq ?_
 refine s_false rfl ?_
 refine s_seq ?_
 refine s_region ?_
 refine qv (v := .bool false) (r_eql rfl rfl (beq_f (by omega))) ?_
 refine qv (v := .bool false) (r_assign rfl) ?_
 refine q_nil ?_
 refine x_seq ?_
 refine s_false rfl ?_
 refine s_seq ?_
 refine s_region ?_
 refine qv (v := .bool false) (r_eql rfl rfl (beq_f (by omega))) ?_
 refine qv (v := .bool false) (r_assign rfl) ?_
 refine q_nil ?_
 refine x_seq ?_
 refine s_false rfl ?_
 refine s_seq ?_
 refine s_region ?_
 refine qv (v := .bool false) (r_eql rfl rfl (beq_f (by omega))) ?_
 refine qv (v := .bool false) (r_assign rfl) ?_
 refine q_nil ?_
 refine x_seq ?_
 refine s_false rfl ?_
 refine s_seq ?_
 refine s_region ?_
 refine qv (v := .bool true) (r_eql rfl rfl (beq_t (by omega))) ?_
 refine qv (v := .bool true) (r_assign rfl) ?_
 refine q_nil ?_
 refine x_seq ?_
 refine s_true rfl ?_
 refine s_seq ?_
 refine s_region ?_
 refine qv (v := .slice (some ad) ((ls ss).length) c) (r_move rfl) ?_
 refine qv (v := .pointer (some ⟨g2, 1, none⟩)) (r_field fld_30_1 rfl rfl) ?_
 refine qv (v := .int .i64 fd) (r_load1 sz_3 rfl (S20.cell 1 rfl rfl)) ?_
 refine qv (v := .pointer (some ⟨g2, 2, none⟩)) (r_field fld_30_2 rfl rfl) ?_
 refine qv (v := .pointer (some ⟨g2, 6, none⟩)) (r_field fld_28_3 rfl rfl) ?_
 refine qv (v := .int .i64 s3) (r_load1 sz_3 rfl (S20.cell 1 rfl rfl)) ?_
 refine qo ?_
 refine e_call (args := [.slice (some ad) ((ls ss).length) c, .int .i64 fd, .int .i64 s3]) Try.func47 (by kernel_rfl) rfl rfl ?_
 refine (hR _ HL.out (fun k_ hk_ => Nat.lt_of_lt_of_le (hI.PN k_ hk_) S20.ext.size)).mono ?_
 rintro e w22 ⟨rfl, hb⟩
 refine ⟨_, rfl, ?_⟩
 have B23 := hb
 have S24 := S20.call B23
 replace HA5 := rb HA5 B23
 replace HA7 := rb HA7 B23
 replace HE5 := rb HE5 B23
 replace HE7 := rb HE7 B23
 replace HT := tb HT B23
 replace HL := vb HL B23
 refine qv (v := .tuple #[.slice (some ad) ((ls ss).length) c, .int .i64 e]) (r_move rfl) ?_
 refine qv (v := .slice (some ad) ((ls ss).length) c) (r_extract rfl rfl) ?_
 refine qv (v := .int .i64 e) (r_extract rfl rfl) ?_
 refine qv (v := .slice (some ad) ((ls ss).length) c) (r_assign rfl) ?_
 refine qv (v := .int .i64 e) (r_assign rfl) ?_
 refine q_nil ?_
 refine x_seq ?_
 refine s_seq ?_
 refine s_region ?_
 refine qv (v := .slice (some ad) ((ls ss).length) c) (r_move rfl) ?_
 refine qv (v := .pointer (some ⟨g, 0, none⟩)) (r_move rfl) ?_
 refine qv (v := .pointer (some ⟨g15, 1, none⟩)) (r_field fld_30_1 rfl rfl) ?_
 refine qv (v := .int .i64 fd) (r_load1 sz_3 rfl (S24.cell 0 rfl rfl)) ?_
 refine qv (v := .pointer (some ⟨g15, 2, none⟩)) (r_field fld_30_2 rfl rfl) ?_
 refine qv (v := .pointer (some ⟨g15, 6, none⟩)) (r_field fld_28_3 rfl rfl) ?_
 refine qv (v := .int .i64 s3) (r_load1 sz_3 rfl (S24.cell 0 rfl rfl)) ?_
 refine qo ?_
 refine e_call (args := [.pointer (some ⟨g, 0, none⟩), .int .i64 fd, .int .i64 s3]) Try.func16 (by kernel_rfl) rfl rfl ?_
 refine (hT _ HT.out).mono ?_
 rintro e w25 ⟨rfl, hb⟩
 refine ⟨_, rfl, ?_⟩
 have B26 := hb
 have S27 := S24.call B26
 replace HA5 := rb HA5 B26
 replace HA7 := rb HA7 B26
 replace HE5 := rb HE5 B26
 replace HE7 := rb HE7 B26
 replace HT := tb HT B26
 replace HL := vb HL B26
 refine qv (v := .int .i64 e) (r_move rfl) ?_
 refine qv (v := .bool true) (r_eql rfl rfl (beq_t (rfl))) ?_
 refine qv (v := .slice (some ad) ((ls ss).length) c) (r_assign rfl) ?_
 refine qv (v := .bool true) (r_assign rfl) ?_
 refine q_nil ?_
 refine x_seq ?_
 refine s_ret ?_
 refine x_blk_ret ?_
 refine x_seq_ret ?_
 refine t_ret2 (v := .slice (some ad) ((ls ss).length) c) (v' := .bool true) rfl rfl rfl ?_
 exact post_same hI S27.ext HT.out HL.out
end Go.Proofs.Ytilfalpfanaanaa.PA
