/- Parts of one proof, put together by a program of this session's (wip/merge.py). -/
import Derived.Test.YtilfalpfanaanaaMLess2
import Derived.Test.YtilfalpfanaanaaMLess1
import Derived.Test.YtilfalpfanaanaaMLess3
import Derived.Test.YtilfalpfanaanaaMLess4
namespace Go.Proofs.Ytilfalpfanaanaa.PA
open Go.RowKit Go.Proofs.YtilfalpfanaanaaW.PrintWords Go.Proofs.YtilfalpfanaanaaW.PrintLast Go.Proofs.YtilfalpfanaanaaW.PrintMore Go.Proofs.Ytilfalpfanaanaa.Sx
set_option linter.unusedVariables false
set_option linter.unusedSimpArgs false
set_option maxHeartbeats 8000000 in
set_option maxRecDepth 100000 in
theorem lives_calls (w : World) : Calls Try.prog 10 #[] w fun e w' => e = .returned (.bool true) ∧ Below w.heap.size w w' := by

  refine s_enter (n := 42) (L := []) Try.func10 rfl rfl rfl rfl ?_
  have S1 := St.start w no
  refine s_seq ?_
  refine s_region ?_
  refine q_val (v := .bool false) (wn rfl) rfl (r_assign rfl) ?_
  refine q_nil ?_
  refine x_seq ?_
  refine s_seq ?_
  refine s_region ?_
  refine q_of (wn rfl) ?_
  refine e_call (args := [.int .i64 2]) Try.func8 (by kernel_rfl) rfl rfl ?_
  refine (New_ok 2 (by omega) (by omega) _).mono ?_
  rintro e w2 ⟨g, p, rfl, hT, hb⟩
  refine ⟨_, rfl, ?_⟩
  have B3 := hb
  have S4 := S1.call B3
  have HT := Aside0.mk hT
  have hp : w.heap.size ≤ p := hT.low.2.1
  clear hT
  refine q_val (v := .pointer (some ⟨g, 0, none⟩)) (wn rfl) rfl (r_assign rfl) ?_
  refine q_nil ?_
  refine x_seq ?_
  refine s_seq ?_
  refine s_seq ?_
  refine s_region ?_
  refine q_val (v := .pointer (some ⟨g, 0, none⟩)) (wn rfl) rfl (r_move rfl) ?_
  refine q_val (v := .bool false) (wn rfl) rfl (r_peql ptr_31 rfl rfl rfl) ?_
  refine q_nil ?_
  refine x_seq ?_
  refine s_false rfl ?_
  refine s_skip ?_
  refine x_seq ?_
  refine s_seq ?_
  refine s_region ?_
  refine q_val (v := .pointer (some ⟨g, 0, none⟩)) (wn rfl) rfl (r_move rfl) ?_
  refine q_of (wn rfl) ?_
  refine e_call (args := [.int .i64 7]) Try.func25 (by kernel_rfl) rfl rfl ?_
  refine (slots_Full.calls 7 7 4294967295 true [] 120 _ (full_eq 7)).mono ?_
  rintro e w5 ⟨v, rfl, ho, hb⟩
  obtain ⟨Av, cv, rfl⟩ := Kd.R_slice ho
  refine ⟨_, rfl, ?_⟩
  have B6 := hb
  have S7 := S4.call B6
  have HT2 := Aside0.mk (HT.out.below B6)
  have HV := R_C ho
  obtain ⟨kc, hkc⟩ := can_full 7 (by decide)
  refine q_of (wn rfl) ?_
  refine e_call (args := [.pointer (some ⟨g, 0, none⟩), .int .i64 0, .agg #[.int .i64 7, .int .u32 4294967295, .bool true, .slice Av 0 cv, .int .i64 120]]) Try.func11 (by kernel_rfl) rfl rfl ?_
  refine (Put_at HT2.out (fun _ _ => trivial) 0 (by omega) (by simp) (by decide) (fullS 7) Av cv HV.2 HV.1 kc hkc (by decide) 0 rfl).mono ?_
  rintro e w8 ⟨rfl, ⟨q, hT3⟩, hE⟩
  refine ⟨_, rfl, ?_⟩
  have S9 := S7.callX hE (by intro x hx; cases hx) (fun k_ h1_ h2_ => by subst h2_; exact absurd hp (by omega))
  have HT3 := Aside0.mk hT3
  clear hE hT3
  refine q_val (v := .tuple #[.int .i64 0, .int .i64 0]) (wn rfl) rfl (r_move rfl) ?_
  refine q_val (v := .int .i64 0) (wn rfl) rfl (r_extract rfl rfl) ?_
  refine q_val (v := .int .i64 0) (wn rfl) rfl (r_extract rfl rfl) ?_
  refine q_val (v := .int .i64 0) (wn rfl) rfl (r_assign rfl) ?_
  refine q_val (v := .int .i64 0) (wn rfl) rfl (r_assign rfl) ?_
  refine q_nil ?_
  refine x_seq ?_
  refine s_seq ?_
  refine s_region ?_
  refine q_val (v := .pointer (some ⟨g, 0, none⟩)) (wn rfl) rfl (r_move rfl) ?_
  refine q_of (wn rfl) ?_
  refine e_call (args := [.pointer (some ⟨g, 0, none⟩), .int .i64 0, .int .u32 1]) Try.func14 (by kernel_rfl) rfl rfl ?_
  have hq_ := (HT3.out.som 0 q rfl).1
  refine (Limit_ok HT3.out 0 (by omega) (q := q) rfl (fullS 7) rfl 1 (by decide +kernel)).mono ?_
  rintro e w10 ⟨rfl, hT4, hE⟩
  refine ⟨_, rfl, ?_⟩
  have S11 := S9.callX hE (by intro x hx; cases hx) (fun k_ h1_ h2_ => by subst h2_; exact absurd hq_ (by omega))
  have HT4 := Aside0.mk hT4
  clear hE hT4
  refine q_val (v := .int .i64 0) (wn rfl) rfl (r_assign rfl) ?_
  refine q_nil ?_
  refine x_seq ?_
  refine s_seq ?_
  refine s_region ?_
  refine q_val (v := .pointer (some ⟨g, 0, none⟩)) (wn rfl) rfl (r_move rfl) ?_
  refine q_of (wn rfl) ?_
  refine e_call (args := [.pointer (some ⟨g, 0, none⟩), .int .i64 0, .int .u32 1]) Try.func12 (by kernel_rfl) rfl rfl ?_
  refine (Get_ok HT4.out 0 1 (by omega) (s := limS (fullS 7) 1) rfl (by decide +kernel) (by decide +kernel)).mono ?_
  rintro e w12 ⟨v, rfl, ho, hb⟩
  rw [limS_one] at *
  obtain ⟨A5, c5, rfl⟩ := Kd.R_slice ho
  refine ⟨_, rfl, ?_⟩
  have B13 := hb
  have S14 := S11.call B13
  have HV5 := R_C ho
  have HB5 := S14
  have HBg := Aside0.mk (Below.refl w12.heap.size w12)
  refine q_val (v := .tuple #[.agg #[.int .i64 7, .int .u32 1, .bool false, .slice A5 0 c5, .int .i64 0], .int .i64 0]) (wn rfl) rfl (r_move rfl) ?_
  refine q_val (v := .agg #[.int .i64 7, .int .u32 1, .bool false, .slice A5 0 c5, .int .i64 0]) (wn rfl) rfl (r_extract rfl rfl) ?_
  refine q_val (v := .int .i64 0) (wn rfl) rfl (r_extract rfl rfl) ?_
  refine q_of (wn rfl) ?_
  refine e_alloc S14 zro_28 ?_
  intro g15 w16 hg15 S17 B18
  have HBn := Aside0.mk (below_step HBg.out B18)
  clear HBg
  have HBg := HBn
  clear HBn
  refine q_of (wn rfl) ?_
  refine e_store (vs := [.int .i64 7, .int .u32 1, .bool false, .slice A5 0 c5, .int .i64 0]) (cs' := [.int .i64 7, .int .u32 1, .bool false, .slice A5 0 c5, .int .i64 0]) (σ' := [⟨g15, true, .cells #[.int .i64 7, .int .u32 1, .bool false, .slice A5 0 c5, .int .i64 0] 28 (0, 0)⟩]) S17 rfl rfl rfl rfl sz_28 0 rfl (.inl rfl) rfl rfl rfl ?_
  intro w19 S20 E21
  have HBn := Aside0.mk (below_own HBg.out E21 (by omega))
  clear HBg
  have HBg := HBn
  clear HBn
  refine q_val (v := .int .i64 0) (wn rfl) rfl (r_assign rfl) ?_
  refine q_nil ?_
  refine x_seq ?_
  refine s_seq ?_
  refine s_region ?_
  refine q_val (v := .int .i64 0) (wn rfl) rfl (r_move rfl) ?_
  refine q_val (v := .bool true) (wn rfl) rfl (r_eql rfl rfl (beq_t (by omega))) ?_
  refine q_val (v := .bool true) (wn rfl) rfl (r_move rfl) ?_
  refine q_val (v := .int .i64 0) (wan rfl rfl rfl rfl) rfl (r_move rfl) ?_
  refine q_val (v := .bool true) (wan rfl rfl rfl rfl) rfl (r_eql rfl rfl (beq_t (by omega))) ?_
  refine q_val (v := .bool true) (wn rfl) rfl (r_pick_t rfl rfl) ?_
  refine q_val (v := .bool true) (wn rfl) rfl (r_move rfl) ?_
  refine q_val (v := .int .i64 0) (wan rfl rfl rfl rfl) rfl (r_move rfl) ?_
  refine q_val (v := .bool true) (wan rfl rfl rfl rfl) rfl (r_eql rfl rfl (beq_t (by omega))) ?_
  refine q_val (v := .bool true) (wn rfl) rfl (r_pick_t rfl rfl) ?_
  refine q_val (v := .bool true) (wn rfl) rfl (r_move rfl) ?_
  refine q_val (v := .int .i64 0) (wan rfl rfl rfl rfl) rfl (r_move rfl) ?_
  refine q_val (v := .bool true) (wan rfl rfl rfl rfl) rfl (r_eql rfl rfl (beq_t (by omega))) ?_
  refine q_val (v := .bool true) (wn rfl) rfl (r_pick_t rfl rfl) ?_
  refine q_val (v := .bool true) (wn rfl) rfl (r_move rfl) ?_
  refine q_val (v := .agg #[.int .i64 7, .int .u32 1, .bool false, .slice A5 0 c5, .int .i64 0]) (wan rfl rfl rfl rfl) rfl (r_loadN (vs := [.int .i64 7, .int .u32 1, .bool false, .slice A5 0 c5, .int .i64 0]) sz_28 rfl (S20.blk 0 rfl) rfl rfl) ?_
  refine q_val (v := .agg #[.int .i64 7, .int .u32 1, .bool false, .slice none 0 0, .int .i64 0]) (wan rfl rfl rfl rfl) rfl (r_build (ps := [(0, .int .i64 7), (1, .int .u32 1)]) rfl (by kernel_rfl)) ?_
  refine q_of (wan rfl rfl rfl rfl) ?_
  refine e_call (args := [.agg #[.int .i64 7, .int .u32 1, .bool false, .slice A5 0 c5, .int .i64 0], .agg #[.int .i64 7, .int .u32 1, .bool false, .slice none 0 0, .int .i64 0]]) Try.func18 (by kernel_rfl) rfl rfl ?_
  refine (purlieuref13_One.calls 1 7 1 false A5 c5 [] 0 7 1 false none 0 [] 0 true _ (Kd.C_below HV5.2 HBg.out) HV5.1 (Kd.C_below (R_C (Kd.R_nil (Kd.int .i64) 3 w19 0 (fun _ => True))).2 (Below.refl _ _)) (Nat.le_refl _) (by decide +kernel)).mono ?_
  rintro e w22 ⟨rfl, hb⟩
  refine ⟨_, rfl, ?_⟩
  have B23 := hb
  have S24 := S20.call B23
  refine q_val (v := .bool true) (wn rfl) rfl (r_pick_t rfl rfl) ?_
  refine q_val (v := .bool true) (wn rfl) rfl (r_assign rfl) ?_
  refine q_nil ?_
  refine x_seq ?_
  refine s_ret ?_
  refine t_ret1 (v := .bool true) rfl rfl ?_
  exact ⟨rfl, S24.ext.below⟩

end Go.Proofs.Ytilfalpfanaanaa.PA

namespace Go.Proofs.Ytilfalpfanaanaa.PA
open Go.RowKit Go.Proofs.YtilfalpfanaanaaW.PrintWords Go.Proofs.YtilfalpfanaanaaW.PrintLast Go.Proofs.YtilfalpfanaanaaW.PrintMore Go.Proofs.Ytilfalpfanaanaa.Sx
set_option linter.unusedVariables false
set_option linter.unusedSimpArgs false
set_option maxHeartbeats 8000000 in
set_option maxRecDepth 100000 in
theorem SlotsLess_len (s : Slot) (A : Option Addr) (c : Nat) (kd fd s0 s1 : Int) (b0 : Bool) (A5 : Option Addr) (c5 : Nat) (l5 : List Int) (s3 : Int) (A7 : Option Addr) (c7 : Nat) (l7 : List Int) (w : World) (hr : Kd.C (Kd.int .i64) w A s.f2.f1.length s.f2.f1) (hc : s.f2.f1.length ≤ c) (hr5 : Kd.C (Kd.int .i64) w A5 l5.length l5) (hc5 : l5.length ≤ c5) (hr7 : Kd.C (Kd.int .i64) w A7 l7.length l7) (hc7 : l7.length ≤ c7) (hl : 50 < s.f2.f1.length) :
    Calls Try.prog 3 #[.agg #[.int .i64 s.f0, .int .u32 s.f1, .bool s.f2.f0, .slice A s.f2.f1.length c, .int .i64 s.f3], .agg #[.int .i64 kd, .int .i64 fd, .int .i64 s0, .int .u32 s1, .bool b0, .slice A5 l5.length c5, .int .i64 s3, .slice A7 l7.length c7]] w fun e w' => e = .returned (.bool true) ∧ Below w.heap.size w w' := by
  have HR := Aside0.mk hr
  have HC := Aside0.mk hc
  refine s_enter (n := 81) (L := [(0, .agg #[.int .i64 s.f0, .int .u32 s.f1, .bool s.f2.f0, .slice A s.f2.f1.length c, .int .i64 s.f3]), (1, .agg #[.int .i64 kd, .int .i64 fd, .int .i64 s0, .int .u32 s1, .bool b0, .slice A5 l5.length c5, .int .i64 s3, .slice A7 l7.length c7])]) Try.func3 rfl rfl rfl rfl ?_
  have S1 := St.start w no
  refine s_seq ?_
  refine s_region ?_
  refine q_of (wn rfl) ?_
  refine e_box (cs := [.int .i64 s.f0, .int .u32 s.f1, .bool s.f2.f0, .slice A s.f2.f1.length c, .int .i64 s.f3]) S1 rfl rfl ?_
  intro g2 w3 hg2 S4 B5
  refine q_of (wn rfl) ?_
  refine e_box (cs := [.int .i64 kd, .int .i64 fd, .int .i64 s0, .int .u32 s1, .bool b0, .slice A5 l5.length c5, .int .i64 s3, .slice A7 l7.length c7]) S4 rfl rfl ?_
  intro g6 w7 hg6 S8 B9
  refine q_val (v := .bool false) (wn rfl) rfl (r_assign rfl) ?_
  refine q_nil ?_
  refine x_seq ?_
  refine s_seq ?_
  refine s_region ?_
  refine q_of (wn rfl) ?_
  refine e_call (args := [.int .i64 3]) Try.func8 (by kernel_rfl) rfl rfl ?_
  have zng6 := heap_lt (S8.blk 0 rfl)
  have zng2 := heap_lt (S8.blk 1 rfl)
  have zw := S8.ext.size
  refine (New_ok 3 (by omega) (by omega) _).mono ?_
  rintro e w10 ⟨g, p, rfl, hT, hb⟩
  refine ⟨_, rfl, ?_⟩
  have B11 := hb
  have S12 := S8.call B11
  have HT := Aside0.mk (tab_base hT)
  have hpb := hT.low.2.1
  clear hT
  refine q_val (v := .pointer (some ⟨g, 0, none⟩)) (wn rfl) rfl (r_assign rfl) ?_
  refine q_nil ?_
  refine x_seq ?_
  refine s_seq ?_
  refine s_seq ?_
  refine s_region ?_
  refine q_val (v := .pointer (some ⟨g, 0, none⟩)) (wn rfl) rfl (r_move rfl) ?_
  refine q_val (v := .bool false) (wn rfl) rfl (r_peql ptr_31 rfl rfl rfl) ?_
  refine q_val (v := .bool false) (wn rfl) rfl (r_move rfl) ?_
  refine q_val (v := .pointer (some ⟨g2, 2, none⟩)) (wan rfl rfl rfl rfl) rfl (r_field fld_28_2 rfl rfl) ?_
  refine q_val (v := .pointer (some ⟨g2, 3, none⟩)) (wan rfl rfl rfl rfl) rfl (r_field fld_26_1 rfl rfl) ?_
  refine q_val (v := .slice A s.f2.f1.length c) (wan rfl rfl rfl rfl) rfl (r_load1 sz_24 rfl (S12.cell 1 rfl rfl)) ?_
  refine q_val (v := .int .i64 ((s.f2.f1.length : Nat) : Int)) (wan rfl rfl rfl rfl) rfl (r_len_slice elm_24 rfl) ?_
  refine q_val (v := .bool true) (wan rfl rfl rfl rfl) rfl (r_gtr rfl rfl (decide_eq_true (by omega))) ?_
  refine q_val (v := .bool true) (wn rfl) rfl (r_pick_f rfl rfl) ?_
  refine q_val (v := .bool true) (wn rfl) rfl (r_move rfl) ?_
  refine q_skip (unwan rfl rfl rfl rfl rfl) rfl ?_
  refine q_skip (unwan rfl rfl rfl rfl rfl) rfl ?_
  refine q_skip (unwan rfl rfl rfl rfl rfl) rfl ?_
  refine q_val (v := .bool true) (wn rfl) rfl (r_pick_t rfl rfl) ?_
  refine q_nil ?_
  refine x_seq ?_
  refine s_true rfl ?_
  refine s_seq ?_
  refine s_region ?_
  refine q_of (wn rfl) ?_
  refine e_call (args := []) Try.func10 (by kernel_rfl) rfl rfl ?_
  refine (lives_calls _).mono ?_
  rintro e w13 ⟨rfl, hb⟩
  refine ⟨_, rfl, ?_⟩
  have B14 := hb
  have S15 := S12.call B14
  have HTn_ := Aside0.mk (HT.out.below B14)
  clear HT
  have HT := HTn_
  clear HTn_
  refine q_val (v := .bool true) (wn rfl) rfl (r_assign rfl) ?_
  refine q_nil ?_
  refine x_seq ?_
  refine s_ret ?_
  refine x_seq_ret ?_
  refine t_ret1 (v := .bool true) rfl rfl ?_
  exact ⟨rfl, S15.ext.below⟩

set_option maxHeartbeats 8000000 in
set_option maxRecDepth 100000 in
theorem SlotsLess_can (s : Slot) (A : Option Addr) (c : Nat) (kd fd s0 s1 : Int) (b0 : Bool) (A5 : Option Addr) (c5 : Nat) (l5 : List Int) (s3 : Int) (A7 : Option Addr) (c7 : Nat) (l7 : List Int) (w : World) (hr : Kd.C (Kd.int .i64) w A s.f2.f1.length s.f2.f1) (hc : s.f2.f1.length ≤ c) (hr5 : Kd.C (Kd.int .i64) w A5 l5.length l5) (hc5 : l5.length ≤ c5) (hr7 : Kd.C (Kd.int .i64) w A7 l7.length l7) (hc7 : l7.length ≤ c7) (hl : s.f2.f1.length ≤ 50) (hcan : canS s = false) :
    Calls Try.prog 3 #[.agg #[.int .i64 s.f0, .int .u32 s.f1, .bool s.f2.f0, .slice A s.f2.f1.length c, .int .i64 s.f3], .agg #[.int .i64 kd, .int .i64 fd, .int .i64 s0, .int .u32 s1, .bool b0, .slice A5 l5.length c5, .int .i64 s3, .slice A7 l7.length c7]] w fun e w' => e = .returned (.bool true) ∧ Below w.heap.size w w' := by
  have HR := Aside0.mk hr
  have HC := Aside0.mk hc
  have HCan := Aside0.mk (show purlieuref13_Can.f 200 s.f0 s.f1 s.f2.f0 s.f2.f1 s.f3 = some false by rw [rcanS s hl, hcan])
  clear hcan
  refine s_enter (n := 81) (L := [(0, .agg #[.int .i64 s.f0, .int .u32 s.f1, .bool s.f2.f0, .slice A s.f2.f1.length c, .int .i64 s.f3]), (1, .agg #[.int .i64 kd, .int .i64 fd, .int .i64 s0, .int .u32 s1, .bool b0, .slice A5 l5.length c5, .int .i64 s3, .slice A7 l7.length c7])]) Try.func3 rfl rfl rfl rfl ?_
  have S1 := St.start w no
  refine s_seq ?_
  refine s_region ?_
  refine q_of (wn rfl) ?_
  refine e_box (cs := [.int .i64 s.f0, .int .u32 s.f1, .bool s.f2.f0, .slice A s.f2.f1.length c, .int .i64 s.f3]) S1 rfl rfl ?_
  intro g2 w3 hg2 S4 B5
  refine q_of (wn rfl) ?_
  refine e_box (cs := [.int .i64 kd, .int .i64 fd, .int .i64 s0, .int .u32 s1, .bool b0, .slice A5 l5.length c5, .int .i64 s3, .slice A7 l7.length c7]) S4 rfl rfl ?_
  intro g6 w7 hg6 S8 B9
  refine q_val (v := .bool false) (wn rfl) rfl (r_assign rfl) ?_
  refine q_nil ?_
  refine x_seq ?_
  refine s_seq ?_
  refine s_region ?_
  refine q_of (wn rfl) ?_
  refine e_call (args := [.int .i64 3]) Try.func8 (by kernel_rfl) rfl rfl ?_
  have zng6 := heap_lt (S8.blk 0 rfl)
  have zng2 := heap_lt (S8.blk 1 rfl)
  have zw := S8.ext.size
  refine (New_ok 3 (by omega) (by omega) _).mono ?_
  rintro e w10 ⟨g, p, rfl, hT, hb⟩
  refine ⟨_, rfl, ?_⟩
  have B11 := hb
  have S12 := S8.call B11
  have HT := Aside0.mk (tab_base hT)
  have hpb := hT.low.2.1
  clear hT
  refine q_val (v := .pointer (some ⟨g, 0, none⟩)) (wn rfl) rfl (r_assign rfl) ?_
  refine q_nil ?_
  refine x_seq ?_
  refine s_seq ?_
  refine s_seq ?_
  refine s_region ?_
  refine q_val (v := .pointer (some ⟨g, 0, none⟩)) (wn rfl) rfl (r_move rfl) ?_
  refine q_val (v := .bool false) (wn rfl) rfl (r_peql ptr_31 rfl rfl rfl) ?_
  refine q_val (v := .bool false) (wn rfl) rfl (r_move rfl) ?_
  refine q_val (v := .pointer (some ⟨g2, 2, none⟩)) (wan rfl rfl rfl rfl) rfl (r_field fld_28_2 rfl rfl) ?_
  refine q_val (v := .pointer (some ⟨g2, 3, none⟩)) (wan rfl rfl rfl rfl) rfl (r_field fld_26_1 rfl rfl) ?_
  refine q_val (v := .slice A s.f2.f1.length c) (wan rfl rfl rfl rfl) rfl (r_load1 sz_24 rfl (S12.cell 1 rfl rfl)) ?_
  refine q_val (v := .int .i64 ((s.f2.f1.length : Nat) : Int)) (wan rfl rfl rfl rfl) rfl (r_len_slice elm_24 rfl) ?_
  refine q_val (v := .bool false) (wan rfl rfl rfl rfl) rfl (r_gtr rfl rfl (decide_eq_false (by omega))) ?_
  refine q_val (v := .bool false) (wn rfl) rfl (r_pick_f rfl rfl) ?_
  refine q_val (v := .bool false) (wn rfl) rfl (r_move rfl) ?_
  refine q_val (v := .agg #[.int .i64 s.f0, .int .u32 s.f1, .bool s.f2.f0, .slice A s.f2.f1.length c, .int .i64 s.f3]) (wan rfl rfl rfl rfl) rfl (r_loadN (vs := [.int .i64 s.f0, .int .u32 s.f1, .bool s.f2.f0, .slice A s.f2.f1.length c, .int .i64 s.f3]) sz_28 rfl (S12.blk 1 rfl) rfl rfl) ?_
  refine q_of (wan rfl rfl rfl rfl) ?_
  refine e_call (args := [.agg #[.int .i64 s.f0, .int .u32 s.f1, .bool s.f2.f0, .slice A s.f2.f1.length c, .int .i64 s.f3]]) Try.func9 (by kernel_rfl) rfl rfl ?_
  refine (purlieuref13_Can.calls 200 _ _ _ _ _ _ _ false _ (Kd.C_below HR.out S12.ext.below) HC.out HCan.out).mono ?_
  rintro e w13 ⟨rfl, hb⟩
  refine ⟨_, rfl, ?_⟩
  have B14 := hb
  have S15 := S12.call B14
  have HTn_ := Aside0.mk (HT.out.below B14)
  clear HT
  have HT := HTn_
  clear HTn_
  refine q_val (v := .bool true) (wan rfl rfl rfl rfl) rfl (r_not rfl rfl) ?_
  refine q_val (v := .bool true) (wn rfl) rfl (r_pick_f rfl rfl) ?_
  refine q_nil ?_
  refine x_seq ?_
  refine s_true rfl ?_
  refine s_seq ?_
  refine s_region ?_
  refine q_of (wn rfl) ?_
  refine e_call (args := []) Try.func10 (by kernel_rfl) rfl rfl ?_
  refine (lives_calls _).mono ?_
  rintro e w16 ⟨rfl, hb⟩
  refine ⟨_, rfl, ?_⟩
  have B17 := hb
  have S18 := S15.call B17
  have HTn_ := Aside0.mk (HT.out.below B17)
  clear HT
  have HT := HTn_
  clear HTn_
  refine q_val (v := .bool true) (wn rfl) rfl (r_assign rfl) ?_
  refine q_nil ?_
  refine x_seq ?_
  refine s_ret ?_
  refine x_seq_ret ?_
  refine t_ret1 (v := .bool true) rfl rfl ?_
  exact ⟨rfl, S18.ext.below⟩

end Go.Proofs.Ytilfalpfanaanaa.PA

namespace Go.Proofs.Ytilfalpfanaanaa.PA
open Go.RowKit Go.Proofs.YtilfalpfanaanaaW.PrintWords Go.Proofs.YtilfalpfanaanaaW.PrintLast Go.Proofs.YtilfalpfanaanaaW.PrintMore Go.Proofs.Ytilfalpfanaanaa.Sx
set_option linter.unusedVariables false
set_option linter.unusedSimpArgs false
set_option maxHeartbeats 8000000 in
set_option maxRecDepth 100000 in
theorem SlotsLess_lim_ok (s : Slot) (A : Option Addr) (c : Nat) (kd fd s0 s1 : Int) (b0 : Bool) (A5 : Option Addr) (c5 : Nat) (l5 : List Int) (s3 : Int) (A7 : Option Addr) (c7 : Nat) (l7 : List Int) (w : World) (hr : Kd.C (Kd.int .i64) w A s.f2.f1.length s.f2.f1) (hc : s.f2.f1.length ≤ c) (hr5 : Kd.C (Kd.int .i64) w A5 l5.length l5) (hc5 : l5.length ≤ c5) (hr7 : Kd.C (Kd.int .i64) w A7 l7.length l7) (hc7 : l7.length ≤ c7) (hl : s.f2.f1.length ≤ 50) (hcan : canS s = true) (hk : kd = 3) (hsub : rights_Subset.f s1 s.f1 = some true) (n : Slot) (hn : n = limS s s1) (hwi : purlieuref13_Within.f 400 n.f0 n.f1 n.f2.f0 n.f2.f1 n.f3 s.f0 s.f1 s.f2.f0 s.f2.f1 s.f3 = some true) (hnl : n.f2.f1.length ≤ 200) :
    Calls Try.prog 3 #[.agg #[.int .i64 s.f0, .int .u32 s.f1, .bool s.f2.f0, .slice A s.f2.f1.length c, .int .i64 s.f3], .agg #[.int .i64 kd, .int .i64 fd, .int .i64 s0, .int .u32 s1, .bool b0, .slice A5 l5.length c5, .int .i64 s3, .slice A7 l7.length c7]] w fun e w' => e = .returned (.bool true) ∧ Below w.heap.size w w' := by
  have HR := Aside0.mk hr
  have HC := Aside0.mk hc
  have HR5 := Aside0.mk hr5
  have HR7 := Aside0.mk hr7
  have HC5 := Aside0.mk hc5
  have HC7 := Aside0.mk hc7
  have HCan := Aside0.mk (show purlieuref13_Can.f 200 s.f0 s.f1 s.f2.f0 s.f2.f1 s.f3 = some true by rw [rcanS s hl, hcan])
  have HCan2 := Aside0.mk (show slots_can.f 200 s.f0 s.f1 s.f2.f0 s.f2.f1 s.f3 = some true by rw [wcanS s hl, hcan])
  have HSub := Aside0.mk hsub
  have HWi := Aside0.mk hwi
  clear hcan hsub hwi hr5 hr7
  refine s_enter (n := 81) (L := [(0, .agg #[.int .i64 s.f0, .int .u32 s.f1, .bool s.f2.f0, .slice A s.f2.f1.length c, .int .i64 s.f3]), (1, .agg #[.int .i64 kd, .int .i64 fd, .int .i64 s0, .int .u32 s1, .bool b0, .slice A5 l5.length c5, .int .i64 s3, .slice A7 l7.length c7])]) Try.func3 rfl rfl rfl rfl ?_
  have S1 := St.start w no
  refine s_seq ?_
  refine s_region ?_
  refine q_of (wn rfl) ?_
  refine e_box (cs := [.int .i64 s.f0, .int .u32 s.f1, .bool s.f2.f0, .slice A s.f2.f1.length c, .int .i64 s.f3]) S1 rfl rfl ?_
  intro g2 w3 hg2 S4 B5
  refine q_of (wn rfl) ?_
  refine e_box (cs := [.int .i64 kd, .int .i64 fd, .int .i64 s0, .int .u32 s1, .bool b0, .slice A5 l5.length c5, .int .i64 s3, .slice A7 l7.length c7]) S4 rfl rfl ?_
  intro g6 w7 hg6 S8 B9
  refine q_val (v := .bool false) (wn rfl) rfl (r_assign rfl) ?_
  refine q_nil ?_
  refine x_seq ?_
  refine s_seq ?_
  refine s_region ?_
  refine q_of (wn rfl) ?_
  refine e_call (args := [.int .i64 3]) Try.func8 (by kernel_rfl) rfl rfl ?_
  have zng6 := heap_lt (S8.blk 0 rfl)
  have zng2 := heap_lt (S8.blk 1 rfl)
  have zw := S8.ext.size
  refine (New_ok 3 (by omega) (by omega) _).mono ?_
  rintro e w10 ⟨g, p, rfl, hT, hb⟩
  refine ⟨_, rfl, ?_⟩
  have B11 := hb
  have S12 := S8.call B11
  have HT := Aside0.mk (tab_base hT)
  have hpb := hT.low.2.1
  clear hT
  refine q_val (v := .pointer (some ⟨g, 0, none⟩)) (wn rfl) rfl (r_assign rfl) ?_
  refine q_nil ?_
  refine x_seq ?_
  refine s_seq ?_
  refine s_seq ?_
  refine s_region ?_
  refine q_val (v := .pointer (some ⟨g, 0, none⟩)) (wn rfl) rfl (r_move rfl) ?_
  refine q_val (v := .bool false) (wn rfl) rfl (r_peql ptr_31 rfl rfl rfl) ?_
  refine q_val (v := .bool false) (wn rfl) rfl (r_move rfl) ?_
  refine q_val (v := .pointer (some ⟨g2, 2, none⟩)) (wan rfl rfl rfl rfl) rfl (r_field fld_28_2 rfl rfl) ?_
  refine q_val (v := .pointer (some ⟨g2, 3, none⟩)) (wan rfl rfl rfl rfl) rfl (r_field fld_26_1 rfl rfl) ?_
  refine q_val (v := .slice A s.f2.f1.length c) (wan rfl rfl rfl rfl) rfl (r_load1 sz_24 rfl (S12.cell 1 rfl rfl)) ?_
  refine q_val (v := .int .i64 ((s.f2.f1.length : Nat) : Int)) (wan rfl rfl rfl rfl) rfl (r_len_slice elm_24 rfl) ?_
  refine q_val (v := .bool false) (wan rfl rfl rfl rfl) rfl (r_gtr rfl rfl (decide_eq_false (by omega))) ?_
  refine q_val (v := .bool false) (wn rfl) rfl (r_pick_f rfl rfl) ?_
  refine q_val (v := .bool false) (wn rfl) rfl (r_move rfl) ?_
  refine q_val (v := .agg #[.int .i64 s.f0, .int .u32 s.f1, .bool s.f2.f0, .slice A s.f2.f1.length c, .int .i64 s.f3]) (wan rfl rfl rfl rfl) rfl (r_loadN (vs := [.int .i64 s.f0, .int .u32 s.f1, .bool s.f2.f0, .slice A s.f2.f1.length c, .int .i64 s.f3]) sz_28 rfl (S12.blk 1 rfl) rfl rfl) ?_
  refine q_of (wan rfl rfl rfl rfl) ?_
  refine e_call (args := [.agg #[.int .i64 s.f0, .int .u32 s.f1, .bool s.f2.f0, .slice A s.f2.f1.length c, .int .i64 s.f3]]) Try.func9 (by kernel_rfl) rfl rfl ?_
  refine (purlieuref13_Can.calls 200 _ _ _ _ _ _ _ true _ (Kd.C_below HR.out S12.ext.below) HC.out HCan.out).mono ?_
  rintro e w13 ⟨rfl, hb⟩
  refine ⟨_, rfl, ?_⟩
  have B14 := hb
  have S15 := S12.call B14
  have HTn_ := Aside0.mk (HT.out.below B14)
  clear HT
  have HT := HTn_
  clear HTn_
  refine q_val (v := .bool false) (wan rfl rfl rfl rfl) rfl (r_not rfl rfl) ?_
  refine q_val (v := .bool false) (wn rfl) rfl (r_pick_f rfl rfl) ?_
  refine q_nil ?_
  refine x_seq ?_
  refine s_false rfl ?_
  refine s_skip ?_
  refine x_seq ?_
  refine s_seq ?_
  refine s_region ?_
  refine q_val (v := .pointer (some ⟨g, 0, none⟩)) (wn rfl) rfl (r_move rfl) ?_
  refine q_val (v := .agg #[.int .i64 s.f0, .int .u32 s.f1, .bool s.f2.f0, .slice A s.f2.f1.length c, .int .i64 s.f3]) (wn rfl) rfl (r_loadN (vs := [.int .i64 s.f0, .int .u32 s.f1, .bool s.f2.f0, .slice A s.f2.f1.length c, .int .i64 s.f3]) sz_28 rfl (S15.blk 1 rfl) rfl rfl) ?_
  refine q_of (wn rfl) ?_
  refine e_call (args := [.pointer (some ⟨g, 0, none⟩), .int .i64 1, .agg #[.int .i64 s.f0, .int .u32 s.f1, .bool s.f2.f0, .slice A s.f2.f1.length c, .int .i64 s.f3]]) Try.func11 (by kernel_rfl) rfl rfl ?_
  have hblk_ := HT.out.row
  refine (Put_at HT.out (tab_okN HT.out) 1 (by omega) (by simp) (by decide) s A c (Kd.C_below HR.out S15.ext.below) HC.out 200 HCan2.out (by omega) 1 rfl).mono ?_
  rintro e w16 ⟨rfl, ⟨q, hT3⟩, hE⟩
  refine ⟨_, rfl, ?_⟩
  have S17 := S15.callX hE (fun x_ hx_ e_ => by simp only [List.mem_cons, List.not_mem_nil, or_false] at hx_; rcases hx_ with rfl | rfl; all_goals ((try dsimp only at e_); omega)) (fun k_ h1_ h2_ => by (try dsimp only at h2_); omega)
  clear HT hblk_
  have HT := Aside0.mk hT3
  have hq_ := (hT3.som 1 q rfl).1
  have HQ := Aside0.mk (show (List.set (List.replicate (Int.toNat 3) (none : Option Nat)) (Int.toNat 1) (some q))[1]? = some (some q) from rfl)
  clear hE hT3
  have HS := Aside0.mk (show (List.set (List.replicate (Int.toNat 3) (none : Option Slot)) (Int.toNat 1) (some s))[1]? = some (some s) from rfl)
  refine q_nil ?_
  refine x_seq ?_
  refine s_seq ?_
  refine s_region ?_
  refine q_val (v := .pointer (some ⟨g, 0, none⟩)) (wn rfl) rfl (r_move rfl) ?_
  refine q_of (wn rfl) ?_
  refine e_call (args := [.pointer (some ⟨g, 0, none⟩), .int .i64 1, .int .u32 0]) Try.func12 (by kernel_rfl) rfl rfl ?_
  refine (Get_ok HT.out 1 0 (by omega) (s := s) HS.out (subset_zero _) (by omega)).mono ?_
  rintro e w18 ⟨v, rfl, ho, hb⟩
  obtain ⟨Aw1, cw1, rfl⟩ := Kd.R_slice ho
  refine ⟨_, rfl, ?_⟩
  have B19 := hb
  have S20 := S17.call B19
  have HTn_ := Aside0.mk (HT.out.below B19)
  clear HT
  have HT := HTn_
  clear HTn_
  have HW1 := Aside0.mk ho
  clear ho
  refine q_val (v := .tuple #[.agg #[.int .i64 s.f0, .int .u32 s.f1, .bool s.f2.f0, .slice Aw1 s.f2.f1.length cw1, .int .i64 s.f3], .int .i64 0]) (wn rfl) rfl (r_move rfl) ?_
  refine q_val (v := .agg #[.int .i64 s.f0, .int .u32 s.f1, .bool s.f2.f0, .slice Aw1 s.f2.f1.length cw1, .int .i64 s.f3]) (wn rfl) rfl (r_extract rfl rfl) ?_
  refine q_val (v := .int .i64 0) (wn rfl) rfl (r_extract rfl rfl) ?_
  refine q_of (wn rfl) ?_
  refine e_alloc S20 zro_28 ?_
  intro g21 w22 hg21 S23 B24
  have zpHTg21 := blk_lt HT.out.row
  have zqHTg21q := tab_slot_lt HT.out HQ.out
  have HW1n_ := Aside0.mk (R_below HW1.out B24)
  clear HW1
  have HW1 := HW1n_
  clear HW1n_
  have HTn_ := Aside0.mk ((HT.out.apart (a := g21) (Nat.le_of_eq hg21)).below B24)
  clear HT
  have HT := HTn_
  clear HTn_
  refine q_of (wn rfl) ?_
  refine e_store (vs := [.int .i64 s.f0, .int .u32 s.f1, .bool s.f2.f0, .slice Aw1 s.f2.f1.length cw1, .int .i64 s.f3]) (cs' := [.int .i64 s.f0, .int .u32 s.f1, .bool s.f2.f0, .slice Aw1 s.f2.f1.length cw1, .int .i64 s.f3]) (σ' := [⟨g21, true, .cells #[.int .i64 s.f0, .int .u32 s.f1, .bool s.f2.f0, .slice Aw1 s.f2.f1.length cw1, .int .i64 s.f3] 28 (0, 0)⟩, ⟨g6, true, .cells #[.int .i64 kd, .int .i64 fd, .int .i64 s0, .int .u32 s1, .bool b0, .slice A5 l5.length c5, .int .i64 s3, .slice A7 l7.length c7] 30 (0, 0)⟩, ⟨g2, true, .cells #[.int .i64 s.f0, .int .u32 s.f1, .bool s.f2.f0, .slice A s.f2.f1.length c, .int .i64 s.f3] 28 (0, 0)⟩]) S23 rfl rfl rfl rfl sz_28 0 rfl (.inl rfl) rfl rfl rfl ?_
  intro w25 S26 E27
  have HW1n_ := Aside0.mk (R_ext HW1.out E27 (S23.blk 0 rfl) (by decide))
  clear HW1
  have HW1 := HW1n_
  clear HW1n_
  have HTn_ := Aside0.mk (HT.out.move (fun k_ hk_ hl_ => E27.block k_ hl_ (fun e_ => by (try dsimp only at e_ hk_); omega)))
  clear HT
  have HT := HTn_
  clear HTn_
  refine q_val (v := .int .i64 0) (wn rfl) rfl (r_assign rfl) ?_
  refine q_nil ?_
  refine x_seq ?_
  refine s_seq ?_
  refine s_region ?_
  refine q_val (v := .agg #[.int .i64 kd, .int .i64 fd, .int .i64 s0, .int .u32 s1, .bool b0, .slice A5 l5.length c5, .int .i64 s3, .slice A7 l7.length c7]) (wn rfl) rfl (r_loadN (vs := [.int .i64 kd, .int .i64 fd, .int .i64 s0, .int .u32 s1, .bool b0, .slice A5 l5.length c5, .int .i64 s3, .slice A7 l7.length c7]) sz_30 rfl (S26.blk 1 rfl) rfl rfl) ?_
  refine q_of (wn rfl) ?_
  refine e_call (args := [.agg #[.int .i64 kd, .int .i64 fd, .int .i64 s0, .int .u32 s1, .bool b0, .slice A5 l5.length c5, .int .i64 s3, .slice A7 l7.length c7]]) Try.func13 (by kernel_rfl) rfl rfl ?_
  refine (own_calls kd fd s0 s1 b0 A5 c5 l5 s3 A7 c7 l7 _ (Kd.C_below HR5.out S26.ext.below) HC5.out (Kd.C_below HR7.out S26.ext.below) HC7.out).mono ?_
  rintro e w28 ⟨v5, v7, rfl, ho5, ho7, hb⟩
  obtain ⟨B5, d5, rfl⟩ := Kd.R_slice ho5
  obtain ⟨B7, d7, rfl⟩ := Kd.R_slice ho7
  refine ⟨_, rfl, ?_⟩
  have B29 := hb
  have S30 := S26.call B29
  have HW1n_ := Aside0.mk (R_below HW1.out B29)
  clear HW1
  have HW1 := HW1n_
  clear HW1n_
  have HTn_ := Aside0.mk (HT.out.below B29)
  clear HT
  have HT := HTn_
  clear HTn_
  have HO7 := Aside0.mk ho7
  clear ho5 ho7
  refine q_of (wn rfl) ?_
  refine e_store (vs := [.int .i64 kd, .int .i64 fd, .int .i64 s0, .int .u32 s1, .bool b0, .slice B5 ((cut50 l5).length) d5, .int .i64 s3, .slice B7 ((cut50 l7).length) d7]) (cs' := [.int .i64 kd, .int .i64 fd, .int .i64 s0, .int .u32 s1, .bool b0, .slice B5 ((cut50 l5).length) d5, .int .i64 s3, .slice B7 ((cut50 l7).length) d7]) (σ' := [⟨g21, true, .cells #[.int .i64 s.f0, .int .u32 s.f1, .bool s.f2.f0, .slice Aw1 s.f2.f1.length cw1, .int .i64 s.f3] 28 (0, 0)⟩, ⟨g6, true, .cells #[.int .i64 kd, .int .i64 fd, .int .i64 s0, .int .u32 s1, .bool b0, .slice B5 ((cut50 l5).length) d5, .int .i64 s3, .slice B7 ((cut50 l7).length) d7] 30 (0, 0)⟩, ⟨g2, true, .cells #[.int .i64 s.f0, .int .u32 s.f1, .bool s.f2.f0, .slice A s.f2.f1.length c, .int .i64 s.f3] 28 (0, 0)⟩]) S30 rfl rfl rfl rfl sz_30 1 rfl (.inl rfl) rfl rfl rfl ?_
  intro w31 S32 E33
  have HW1n_ := Aside0.mk (R_ext HW1.out E33 (S30.blk 1 rfl) (by decide))
  clear HW1
  have HW1 := HW1n_
  clear HW1n_
  have HO7n_ := Aside0.mk (R_ext HO7.out E33 (S30.blk 1 rfl) (by decide))
  clear HO7
  have HO7 := HO7n_
  clear HO7n_
  have HTn_ := Aside0.mk (HT.out.move (fun k_ hk_ hl_ => E33.block k_ hl_ (fun e_ => by (try dsimp only at e_ hk_); omega)))
  clear HT
  have HT := HTn_
  clear HTn_
  refine q_nil ?_
  refine x_seq ?_
  refine s_seq ?_
  refine s_region ?_
  refine q_val (v := .int .i64 0) (wn rfl) rfl (r_assign rfl) ?_
  refine q_nil ?_
  refine x_seq ?_
  refine s_seq ?_
  refine s_seq ?_
  refine s_region ?_
  refine q_val (v := .pointer (some ⟨g6, 0, none⟩)) (wn rfl) rfl (r_field fld_30_0 rfl rfl) ?_
  refine q_val (v := .int .i64 kd) (wn rfl) rfl (r_load1 sz_3 rfl (S32.cell 1 rfl rfl)) ?_
  refine q_nil ?_
  refine x_seq ?_
  refine s_block ?_
  refine s_seq ?_
  refine s_region ?_
  refine q_val (v := .bool true) (wn rfl) rfl (r_eql rfl rfl (beq_t (by omega))) ?_
  refine q_val (v := .bool true) (wn rfl) rfl (r_assign rfl) ?_
  refine q_nil ?_
  refine x_seq ?_
  refine s_true rfl ?_
  refine s_region ?_
  refine q_val (v := .pointer (some ⟨g, 0, none⟩)) (wn rfl) rfl (r_move rfl) ?_
  refine q_val (v := .pointer (some ⟨g6, 2, none⟩)) (wn rfl) rfl (r_field fld_30_2 rfl rfl) ?_
  refine q_val (v := .pointer (some ⟨g6, 3, none⟩)) (wn rfl) rfl (r_field fld_28_1 rfl rfl) ?_
  refine q_val (v := .int .u32 s1) (wn rfl) rfl (r_load1 sz_23 rfl (S32.cell 1 rfl rfl)) ?_
  refine q_of (wn rfl) ?_
  refine e_call (args := [.pointer (some ⟨g, 0, none⟩), .int .i64 1, .int .u32 s1]) Try.func14 (by kernel_rfl) rfl rfl ?_
  obtain ⟨_, _, s_, _, A_, c_, hblk_, _⟩ := HT.out.som 1 q HQ.out
  refine (Limit_ok HT.out 1 (by omega) HQ.out s HS.out s1 HSub.out).mono ?_
  rintro e w34 ⟨rfl, hT3, hE⟩
  refine ⟨_, rfl, ?_⟩
  have S35 := S32.callX hE (fun x_ hx_ e_ => by simp only [List.mem_cons, List.not_mem_nil, or_false] at hx_; rcases hx_ with rfl | rfl | rfl; all_goals ((try dsimp only at e_); omega)) (fun k_ h1_ h2_ => by (try dsimp only at h2_); omega)
  have HW1n_ := Aside0.mk (R_ext HW1.out hE hblk_ (by decide))
  clear HW1
  have HW1 := HW1n_
  clear HW1n_
  have HO7n_ := Aside0.mk (R_ext HO7.out hE hblk_ (by decide))
  clear HO7
  have HO7 := HO7n_
  clear HO7n_
  rw [← hn] at hT3
  clear HT hblk_
  have HT := Aside0.mk hT3
  clear HS
  have HS := Aside0.mk (show (List.set (List.set (List.replicate (Int.toNat 3) (none : Option Slot)) (Int.toNat 1) (some s)) (Int.toNat 1) (some n))[1]? = some (some n) from rfl)
  clear hE hT3
  refine q_val (v := .int .i64 0) (wn rfl) rfl (r_assign rfl) ?_
  refine q_nil ?_
  refine x_blk ?_
  refine x_seq ?_
  refine s_seq ?_
  refine s_region ?_
  refine q_val (v := .pointer (some ⟨g, 0, none⟩)) (wn rfl) rfl (r_move rfl) ?_
  refine q_of (wn rfl) ?_
  refine e_call (args := [.pointer (some ⟨g, 0, none⟩), .int .i64 1, .int .u32 0]) Try.func12 (by kernel_rfl) rfl rfl ?_
  refine (Get_ok HT.out 1 0 (by omega) (s := n) HS.out (subset_zero _) (by omega)).mono ?_
  rintro e w36 ⟨v, rfl, ho, hb⟩
  obtain ⟨Aw2, cw2, rfl⟩ := Kd.R_slice ho
  refine ⟨_, rfl, ?_⟩
  have B37 := hb
  have S38 := S35.call B37
  have HW1n_ := Aside0.mk (R_below HW1.out B37)
  clear HW1
  have HW1 := HW1n_
  clear HW1n_
  have HO7n_ := Aside0.mk (R_below HO7.out B37)
  clear HO7
  have HO7 := HO7n_
  clear HO7n_
  have HTn_ := Aside0.mk (HT.out.below B37)
  clear HT
  have HT := HTn_
  clear HTn_
  have HW2 := Aside0.mk ho
  clear ho
  refine q_val (v := .tuple #[.agg #[.int .i64 n.f0, .int .u32 n.f1, .bool n.f2.f0, .slice Aw2 n.f2.f1.length cw2, .int .i64 n.f3], .int .i64 0]) (wn rfl) rfl (r_move rfl) ?_
  refine q_val (v := .agg #[.int .i64 n.f0, .int .u32 n.f1, .bool n.f2.f0, .slice Aw2 n.f2.f1.length cw2, .int .i64 n.f3]) (wn rfl) rfl (r_extract rfl rfl) ?_
  refine q_val (v := .int .i64 0) (wn rfl) rfl (r_extract rfl rfl) ?_
  refine q_of (wn rfl) ?_
  refine e_alloc S38 zro_28 ?_
  intro g39 w40 hg39 S41 B42
  have zpHTg39 := blk_lt HT.out.row
  have zqHTg39q := tab_slot_lt HT.out HQ.out
  have HW1n_ := Aside0.mk (R_below HW1.out B42)
  clear HW1
  have HW1 := HW1n_
  clear HW1n_
  have HO7n_ := Aside0.mk (R_below HO7.out B42)
  clear HO7
  have HO7 := HO7n_
  clear HO7n_
  have HW2n_ := Aside0.mk (R_below HW2.out B42)
  clear HW2
  have HW2 := HW2n_
  clear HW2n_
  have HTn_ := Aside0.mk ((HT.out.apart (a := g39) (Nat.le_of_eq hg39)).below B42)
  clear HT
  have HT := HTn_
  clear HTn_
  refine q_of (wn rfl) ?_
  refine e_store (vs := [.int .i64 n.f0, .int .u32 n.f1, .bool n.f2.f0, .slice Aw2 n.f2.f1.length cw2, .int .i64 n.f3]) (cs' := [.int .i64 n.f0, .int .u32 n.f1, .bool n.f2.f0, .slice Aw2 n.f2.f1.length cw2, .int .i64 n.f3]) (σ' := [⟨g39, true, .cells #[.int .i64 n.f0, .int .u32 n.f1, .bool n.f2.f0, .slice Aw2 n.f2.f1.length cw2, .int .i64 n.f3] 28 (0, 0)⟩, ⟨g21, true, .cells #[.int .i64 s.f0, .int .u32 s.f1, .bool s.f2.f0, .slice Aw1 s.f2.f1.length cw1, .int .i64 s.f3] 28 (0, 0)⟩, ⟨g6, true, .cells #[.int .i64 kd, .int .i64 fd, .int .i64 s0, .int .u32 s1, .bool b0, .slice B5 ((cut50 l5).length) d5, .int .i64 s3, .slice B7 ((cut50 l7).length) d7] 30 (0, 0)⟩, ⟨g2, true, .cells #[.int .i64 s.f0, .int .u32 s.f1, .bool s.f2.f0, .slice A s.f2.f1.length c, .int .i64 s.f3] 28 (0, 0)⟩]) S41 rfl rfl rfl rfl sz_28 0 rfl (.inl rfl) rfl rfl rfl ?_
  intro w43 S44 E45
  have HW1n_ := Aside0.mk (R_ext HW1.out E45 (S41.blk 0 rfl) (by decide))
  clear HW1
  have HW1 := HW1n_
  clear HW1n_
  have HO7n_ := Aside0.mk (R_ext HO7.out E45 (S41.blk 0 rfl) (by decide))
  clear HO7
  have HO7 := HO7n_
  clear HO7n_
  have HW2n_ := Aside0.mk (R_ext HW2.out E45 (S41.blk 0 rfl) (by decide))
  clear HW2
  have HW2 := HW2n_
  clear HW2n_
  have HTn_ := Aside0.mk (HT.out.move (fun k_ hk_ hl_ => E45.block k_ hl_ (fun e_ => by (try dsimp only at e_ hk_); omega)))
  clear HT
  have HT := HTn_
  clear HTn_
  refine q_val (v := .int .i64 0) (wn rfl) rfl (r_assign rfl) ?_
  refine q_nil ?_
  refine x_seq ?_
  refine s_seq ?_
  refine s_region ?_
  refine q_val (v := .int .i64 0) (wn rfl) rfl (r_move rfl) ?_
  refine q_val (v := .bool true) (wn rfl) rfl (r_eql rfl rfl (beq_t (by omega))) ?_
  refine q_val (v := .bool true) (wn rfl) rfl (r_move rfl) ?_
  refine q_val (v := .agg #[.int .i64 n.f0, .int .u32 n.f1, .bool n.f2.f0, .slice Aw2 n.f2.f1.length cw2, .int .i64 n.f3]) (wan rfl rfl rfl rfl) rfl (r_loadN (vs := [.int .i64 n.f0, .int .u32 n.f1, .bool n.f2.f0, .slice Aw2 n.f2.f1.length cw2, .int .i64 n.f3]) sz_28 rfl (S44.blk 0 rfl) rfl rfl) ?_
  refine q_val (v := .agg #[.int .i64 s.f0, .int .u32 s.f1, .bool s.f2.f0, .slice Aw1 s.f2.f1.length cw1, .int .i64 s.f3]) (wan rfl rfl rfl rfl) rfl (r_loadN (vs := [.int .i64 s.f0, .int .u32 s.f1, .bool s.f2.f0, .slice Aw1 s.f2.f1.length cw1, .int .i64 s.f3]) sz_28 rfl (S44.blk 1 rfl) rfl rfl) ?_
  refine q_of (wan rfl rfl rfl rfl) ?_
  refine e_call (args := [.agg #[.int .i64 n.f0, .int .u32 n.f1, .bool n.f2.f0, .slice Aw2 n.f2.f1.length cw2, .int .i64 n.f3], .agg #[.int .i64 s.f0, .int .u32 s.f1, .bool s.f2.f0, .slice Aw1 s.f2.f1.length cw1, .int .i64 s.f3]]) Try.func17 (by kernel_rfl) rfl rfl ?_
  refine (purlieuref13_Within.calls 400 n.f0 n.f1 n.f2.f0 Aw2 cw2 n.f2.f1 n.f3 s.f0 s.f1 s.f2.f0 Aw1 cw1 s.f2.f1 s.f3 true _ (R_C HW2.out).2 (R_C HW2.out).1 (R_C HW1.out).2 (R_C HW1.out).1 HWi.out).mono ?_
  rintro e w46 ⟨rfl, hb⟩
  refine ⟨_, rfl, ?_⟩
  have B47 := hb
  have S48 := S44.call B47
  have HW1n_ := Aside0.mk (R_below HW1.out B47)
  clear HW1
  have HW1 := HW1n_
  clear HW1n_
  have HO7n_ := Aside0.mk (R_below HO7.out B47)
  clear HO7
  have HO7 := HO7n_
  clear HO7n_
  have HW2n_ := Aside0.mk (R_below HW2.out B47)
  clear HW2
  have HW2 := HW2n_
  clear HW2n_
  have HTn_ := Aside0.mk (HT.out.below B47)
  clear HT
  have HT := HTn_
  clear HTn_
  refine q_val (v := .bool true) (wn rfl) rfl (r_pick_t rfl rfl) ?_
  refine q_val (v := .bool true) (wn rfl) rfl (r_move rfl) ?_
  refine q_val (v := .int .i64 0) (wan rfl rfl rfl rfl) rfl (r_move rfl) ?_
  refine q_val (v := .bool true) (wan rfl rfl rfl rfl) rfl (r_eql rfl rfl (beq_t (by omega))) ?_
  refine q_val (v := .bool true) (wan rfl rfl rfl rfl) rfl (r_move rfl) ?_
  refine q_skip (unwan rfl rfl rfl rfl rfl) rfl ?_
  refine q_skip (unwan rfl rfl rfl rfl rfl) rfl ?_
  refine q_skip (unwan rfl rfl rfl rfl rfl) rfl ?_
  refine q_val (v := .bool true) (wan rfl rfl rfl rfl) rfl (r_pick_t rfl rfl) ?_
  refine q_val (v := .bool true) (wn rfl) rfl (r_pick_t rfl rfl) ?_
  refine q_val (v := .bool true) (wn rfl) rfl (r_move rfl) ?_
  refine q_of (wan rfl rfl rfl rfl) ?_
  refine e_call (args := []) Try.func10 (by kernel_rfl) rfl rfl ?_
  refine (lives_calls _).mono ?_
  rintro e w49 ⟨rfl, hb⟩
  refine ⟨_, rfl, ?_⟩
  have B50 := hb
  have S51 := S48.call B50
  have HW1n_ := Aside0.mk (R_below HW1.out B50)
  clear HW1
  have HW1 := HW1n_
  clear HW1n_
  have HO7n_ := Aside0.mk (R_below HO7.out B50)
  clear HO7
  have HO7 := HO7n_
  clear HO7n_
  have HW2n_ := Aside0.mk (R_below HW2.out B50)
  clear HW2
  have HW2 := HW2n_
  clear HW2n_
  have HTn_ := Aside0.mk (HT.out.below B50)
  clear HT
  have HT := HTn_
  clear HTn_
  refine q_val (v := .bool true) (wn rfl) rfl (r_pick_t rfl rfl) ?_
  refine q_val (v := .bool true) (wn rfl) rfl (r_assign rfl) ?_
  refine q_nil ?_
  refine x_seq ?_
  refine s_ret ?_
  refine t_ret1 (v := .bool true) rfl rfl ?_
  exact ⟨rfl, S51.ext.below⟩

set_option maxHeartbeats 8000000 in
set_option maxRecDepth 100000 in
theorem SlotsLess_lim_bad (s : Slot) (A : Option Addr) (c : Nat) (kd fd s0 s1 : Int) (b0 : Bool) (A5 : Option Addr) (c5 : Nat) (l5 : List Int) (s3 : Int) (A7 : Option Addr) (c7 : Nat) (l7 : List Int) (w : World) (hr : Kd.C (Kd.int .i64) w A s.f2.f1.length s.f2.f1) (hc : s.f2.f1.length ≤ c) (hr5 : Kd.C (Kd.int .i64) w A5 l5.length l5) (hc5 : l5.length ≤ c5) (hr7 : Kd.C (Kd.int .i64) w A7 l7.length l7) (hc7 : l7.length ≤ c7) (hl : s.f2.f1.length ≤ 50) (hcan : canS s = true) (hk : kd = 3) (hsub : rights_Subset.f s1 s.f1 = some false) (hwi : purlieuref13_Within.f 400 s.f0 s.f1 s.f2.f0 s.f2.f1 s.f3 s.f0 s.f1 s.f2.f0 s.f2.f1 s.f3 = some true) :
    Calls Try.prog 3 #[.agg #[.int .i64 s.f0, .int .u32 s.f1, .bool s.f2.f0, .slice A s.f2.f1.length c, .int .i64 s.f3], .agg #[.int .i64 kd, .int .i64 fd, .int .i64 s0, .int .u32 s1, .bool b0, .slice A5 l5.length c5, .int .i64 s3, .slice A7 l7.length c7]] w fun e w' => e = .returned (.bool true) ∧ Below w.heap.size w w' := by
  have HR := Aside0.mk hr
  have HC := Aside0.mk hc
  have HR5 := Aside0.mk hr5
  have HR7 := Aside0.mk hr7
  have HC5 := Aside0.mk hc5
  have HC7 := Aside0.mk hc7
  have HCan := Aside0.mk (show purlieuref13_Can.f 200 s.f0 s.f1 s.f2.f0 s.f2.f1 s.f3 = some true by rw [rcanS s hl, hcan])
  have HCan2 := Aside0.mk (show slots_can.f 200 s.f0 s.f1 s.f2.f0 s.f2.f1 s.f3 = some true by rw [wcanS s hl, hcan])
  have HSub := Aside0.mk hsub
  have HWi := Aside0.mk hwi
  clear hcan hsub hwi hr5 hr7
  refine s_enter (n := 81) (L := [(0, .agg #[.int .i64 s.f0, .int .u32 s.f1, .bool s.f2.f0, .slice A s.f2.f1.length c, .int .i64 s.f3]), (1, .agg #[.int .i64 kd, .int .i64 fd, .int .i64 s0, .int .u32 s1, .bool b0, .slice A5 l5.length c5, .int .i64 s3, .slice A7 l7.length c7])]) Try.func3 rfl rfl rfl rfl ?_
  have S1 := St.start w no
  refine s_seq ?_
  refine s_region ?_
  refine q_of (wn rfl) ?_
  refine e_box (cs := [.int .i64 s.f0, .int .u32 s.f1, .bool s.f2.f0, .slice A s.f2.f1.length c, .int .i64 s.f3]) S1 rfl rfl ?_
  intro g2 w3 hg2 S4 B5
  refine q_of (wn rfl) ?_
  refine e_box (cs := [.int .i64 kd, .int .i64 fd, .int .i64 s0, .int .u32 s1, .bool b0, .slice A5 l5.length c5, .int .i64 s3, .slice A7 l7.length c7]) S4 rfl rfl ?_
  intro g6 w7 hg6 S8 B9
  refine q_val (v := .bool false) (wn rfl) rfl (r_assign rfl) ?_
  refine q_nil ?_
  refine x_seq ?_
  refine s_seq ?_
  refine s_region ?_
  refine q_of (wn rfl) ?_
  refine e_call (args := [.int .i64 3]) Try.func8 (by kernel_rfl) rfl rfl ?_
  have zng6 := heap_lt (S8.blk 0 rfl)
  have zng2 := heap_lt (S8.blk 1 rfl)
  have zw := S8.ext.size
  refine (New_ok 3 (by omega) (by omega) _).mono ?_
  rintro e w10 ⟨g, p, rfl, hT, hb⟩
  refine ⟨_, rfl, ?_⟩
  have B11 := hb
  have S12 := S8.call B11
  have HT := Aside0.mk (tab_base hT)
  have hpb := hT.low.2.1
  clear hT
  refine q_val (v := .pointer (some ⟨g, 0, none⟩)) (wn rfl) rfl (r_assign rfl) ?_
  refine q_nil ?_
  refine x_seq ?_
  refine s_seq ?_
  refine s_seq ?_
  refine s_region ?_
  refine q_val (v := .pointer (some ⟨g, 0, none⟩)) (wn rfl) rfl (r_move rfl) ?_
  refine q_val (v := .bool false) (wn rfl) rfl (r_peql ptr_31 rfl rfl rfl) ?_
  refine q_val (v := .bool false) (wn rfl) rfl (r_move rfl) ?_
  refine q_val (v := .pointer (some ⟨g2, 2, none⟩)) (wan rfl rfl rfl rfl) rfl (r_field fld_28_2 rfl rfl) ?_
  refine q_val (v := .pointer (some ⟨g2, 3, none⟩)) (wan rfl rfl rfl rfl) rfl (r_field fld_26_1 rfl rfl) ?_
  refine q_val (v := .slice A s.f2.f1.length c) (wan rfl rfl rfl rfl) rfl (r_load1 sz_24 rfl (S12.cell 1 rfl rfl)) ?_
  refine q_val (v := .int .i64 ((s.f2.f1.length : Nat) : Int)) (wan rfl rfl rfl rfl) rfl (r_len_slice elm_24 rfl) ?_
  refine q_val (v := .bool false) (wan rfl rfl rfl rfl) rfl (r_gtr rfl rfl (decide_eq_false (by omega))) ?_
  refine q_val (v := .bool false) (wn rfl) rfl (r_pick_f rfl rfl) ?_
  refine q_val (v := .bool false) (wn rfl) rfl (r_move rfl) ?_
  refine q_val (v := .agg #[.int .i64 s.f0, .int .u32 s.f1, .bool s.f2.f0, .slice A s.f2.f1.length c, .int .i64 s.f3]) (wan rfl rfl rfl rfl) rfl (r_loadN (vs := [.int .i64 s.f0, .int .u32 s.f1, .bool s.f2.f0, .slice A s.f2.f1.length c, .int .i64 s.f3]) sz_28 rfl (S12.blk 1 rfl) rfl rfl) ?_
  refine q_of (wan rfl rfl rfl rfl) ?_
  refine e_call (args := [.agg #[.int .i64 s.f0, .int .u32 s.f1, .bool s.f2.f0, .slice A s.f2.f1.length c, .int .i64 s.f3]]) Try.func9 (by kernel_rfl) rfl rfl ?_
  refine (purlieuref13_Can.calls 200 _ _ _ _ _ _ _ true _ (Kd.C_below HR.out S12.ext.below) HC.out HCan.out).mono ?_
  rintro e w13 ⟨rfl, hb⟩
  refine ⟨_, rfl, ?_⟩
  have B14 := hb
  have S15 := S12.call B14
  have HTn_ := Aside0.mk (HT.out.below B14)
  clear HT
  have HT := HTn_
  clear HTn_
  refine q_val (v := .bool false) (wan rfl rfl rfl rfl) rfl (r_not rfl rfl) ?_
  refine q_val (v := .bool false) (wn rfl) rfl (r_pick_f rfl rfl) ?_
  refine q_nil ?_
  refine x_seq ?_
  refine s_false rfl ?_
  refine s_skip ?_
  refine x_seq ?_
  refine s_seq ?_
  refine s_region ?_
  refine q_val (v := .pointer (some ⟨g, 0, none⟩)) (wn rfl) rfl (r_move rfl) ?_
  refine q_val (v := .agg #[.int .i64 s.f0, .int .u32 s.f1, .bool s.f2.f0, .slice A s.f2.f1.length c, .int .i64 s.f3]) (wn rfl) rfl (r_loadN (vs := [.int .i64 s.f0, .int .u32 s.f1, .bool s.f2.f0, .slice A s.f2.f1.length c, .int .i64 s.f3]) sz_28 rfl (S15.blk 1 rfl) rfl rfl) ?_
  refine q_of (wn rfl) ?_
  refine e_call (args := [.pointer (some ⟨g, 0, none⟩), .int .i64 1, .agg #[.int .i64 s.f0, .int .u32 s.f1, .bool s.f2.f0, .slice A s.f2.f1.length c, .int .i64 s.f3]]) Try.func11 (by kernel_rfl) rfl rfl ?_
  have hblk_ := HT.out.row
  refine (Put_at HT.out (tab_okN HT.out) 1 (by omega) (by simp) (by decide) s A c (Kd.C_below HR.out S15.ext.below) HC.out 200 HCan2.out (by omega) 1 rfl).mono ?_
  rintro e w16 ⟨rfl, ⟨q, hT3⟩, hE⟩
  refine ⟨_, rfl, ?_⟩
  have S17 := S15.callX hE (fun x_ hx_ e_ => by simp only [List.mem_cons, List.not_mem_nil, or_false] at hx_; rcases hx_ with rfl | rfl; all_goals ((try dsimp only at e_); omega)) (fun k_ h1_ h2_ => by (try dsimp only at h2_); omega)
  clear HT hblk_
  have HT := Aside0.mk hT3
  have hq_ := (hT3.som 1 q rfl).1
  have HQ := Aside0.mk (show (List.set (List.replicate (Int.toNat 3) (none : Option Nat)) (Int.toNat 1) (some q))[1]? = some (some q) from rfl)
  clear hE hT3
  have HS := Aside0.mk (show (List.set (List.replicate (Int.toNat 3) (none : Option Slot)) (Int.toNat 1) (some s))[1]? = some (some s) from rfl)
  refine q_nil ?_
  refine x_seq ?_
  refine s_seq ?_
  refine s_region ?_
  refine q_val (v := .pointer (some ⟨g, 0, none⟩)) (wn rfl) rfl (r_move rfl) ?_
  refine q_of (wn rfl) ?_
  refine e_call (args := [.pointer (some ⟨g, 0, none⟩), .int .i64 1, .int .u32 0]) Try.func12 (by kernel_rfl) rfl rfl ?_
  refine (Get_ok HT.out 1 0 (by omega) (s := s) HS.out (subset_zero _) (by omega)).mono ?_
  rintro e w18 ⟨v, rfl, ho, hb⟩
  obtain ⟨Aw1, cw1, rfl⟩ := Kd.R_slice ho
  refine ⟨_, rfl, ?_⟩
  have B19 := hb
  have S20 := S17.call B19
  have HTn_ := Aside0.mk (HT.out.below B19)
  clear HT
  have HT := HTn_
  clear HTn_
  have HW1 := Aside0.mk ho
  clear ho
  refine q_val (v := .tuple #[.agg #[.int .i64 s.f0, .int .u32 s.f1, .bool s.f2.f0, .slice Aw1 s.f2.f1.length cw1, .int .i64 s.f3], .int .i64 0]) (wn rfl) rfl (r_move rfl) ?_
  refine q_val (v := .agg #[.int .i64 s.f0, .int .u32 s.f1, .bool s.f2.f0, .slice Aw1 s.f2.f1.length cw1, .int .i64 s.f3]) (wn rfl) rfl (r_extract rfl rfl) ?_
  refine q_val (v := .int .i64 0) (wn rfl) rfl (r_extract rfl rfl) ?_
  refine q_of (wn rfl) ?_
  refine e_alloc S20 zro_28 ?_
  intro g21 w22 hg21 S23 B24
  have zpHTg21 := blk_lt HT.out.row
  have zqHTg21q := tab_slot_lt HT.out HQ.out
  have HW1n_ := Aside0.mk (R_below HW1.out B24)
  clear HW1
  have HW1 := HW1n_
  clear HW1n_
  have HTn_ := Aside0.mk ((HT.out.apart (a := g21) (Nat.le_of_eq hg21)).below B24)
  clear HT
  have HT := HTn_
  clear HTn_
  refine q_of (wn rfl) ?_
  refine e_store (vs := [.int .i64 s.f0, .int .u32 s.f1, .bool s.f2.f0, .slice Aw1 s.f2.f1.length cw1, .int .i64 s.f3]) (cs' := [.int .i64 s.f0, .int .u32 s.f1, .bool s.f2.f0, .slice Aw1 s.f2.f1.length cw1, .int .i64 s.f3]) (σ' := [⟨g21, true, .cells #[.int .i64 s.f0, .int .u32 s.f1, .bool s.f2.f0, .slice Aw1 s.f2.f1.length cw1, .int .i64 s.f3] 28 (0, 0)⟩, ⟨g6, true, .cells #[.int .i64 kd, .int .i64 fd, .int .i64 s0, .int .u32 s1, .bool b0, .slice A5 l5.length c5, .int .i64 s3, .slice A7 l7.length c7] 30 (0, 0)⟩, ⟨g2, true, .cells #[.int .i64 s.f0, .int .u32 s.f1, .bool s.f2.f0, .slice A s.f2.f1.length c, .int .i64 s.f3] 28 (0, 0)⟩]) S23 rfl rfl rfl rfl sz_28 0 rfl (.inl rfl) rfl rfl rfl ?_
  intro w25 S26 E27
  have HW1n_ := Aside0.mk (R_ext HW1.out E27 (S23.blk 0 rfl) (by decide))
  clear HW1
  have HW1 := HW1n_
  clear HW1n_
  have HTn_ := Aside0.mk (HT.out.move (fun k_ hk_ hl_ => E27.block k_ hl_ (fun e_ => by (try dsimp only at e_ hk_); omega)))
  clear HT
  have HT := HTn_
  clear HTn_
  refine q_val (v := .int .i64 0) (wn rfl) rfl (r_assign rfl) ?_
  refine q_nil ?_
  refine x_seq ?_
  refine s_seq ?_
  refine s_region ?_
  refine q_val (v := .agg #[.int .i64 kd, .int .i64 fd, .int .i64 s0, .int .u32 s1, .bool b0, .slice A5 l5.length c5, .int .i64 s3, .slice A7 l7.length c7]) (wn rfl) rfl (r_loadN (vs := [.int .i64 kd, .int .i64 fd, .int .i64 s0, .int .u32 s1, .bool b0, .slice A5 l5.length c5, .int .i64 s3, .slice A7 l7.length c7]) sz_30 rfl (S26.blk 1 rfl) rfl rfl) ?_
  refine q_of (wn rfl) ?_
  refine e_call (args := [.agg #[.int .i64 kd, .int .i64 fd, .int .i64 s0, .int .u32 s1, .bool b0, .slice A5 l5.length c5, .int .i64 s3, .slice A7 l7.length c7]]) Try.func13 (by kernel_rfl) rfl rfl ?_
  refine (own_calls kd fd s0 s1 b0 A5 c5 l5 s3 A7 c7 l7 _ (Kd.C_below HR5.out S26.ext.below) HC5.out (Kd.C_below HR7.out S26.ext.below) HC7.out).mono ?_
  rintro e w28 ⟨v5, v7, rfl, ho5, ho7, hb⟩
  obtain ⟨B5, d5, rfl⟩ := Kd.R_slice ho5
  obtain ⟨B7, d7, rfl⟩ := Kd.R_slice ho7
  refine ⟨_, rfl, ?_⟩
  have B29 := hb
  have S30 := S26.call B29
  have HW1n_ := Aside0.mk (R_below HW1.out B29)
  clear HW1
  have HW1 := HW1n_
  clear HW1n_
  have HTn_ := Aside0.mk (HT.out.below B29)
  clear HT
  have HT := HTn_
  clear HTn_
  have HO7 := Aside0.mk ho7
  clear ho5 ho7
  refine q_of (wn rfl) ?_
  refine e_store (vs := [.int .i64 kd, .int .i64 fd, .int .i64 s0, .int .u32 s1, .bool b0, .slice B5 ((cut50 l5).length) d5, .int .i64 s3, .slice B7 ((cut50 l7).length) d7]) (cs' := [.int .i64 kd, .int .i64 fd, .int .i64 s0, .int .u32 s1, .bool b0, .slice B5 ((cut50 l5).length) d5, .int .i64 s3, .slice B7 ((cut50 l7).length) d7]) (σ' := [⟨g21, true, .cells #[.int .i64 s.f0, .int .u32 s.f1, .bool s.f2.f0, .slice Aw1 s.f2.f1.length cw1, .int .i64 s.f3] 28 (0, 0)⟩, ⟨g6, true, .cells #[.int .i64 kd, .int .i64 fd, .int .i64 s0, .int .u32 s1, .bool b0, .slice B5 ((cut50 l5).length) d5, .int .i64 s3, .slice B7 ((cut50 l7).length) d7] 30 (0, 0)⟩, ⟨g2, true, .cells #[.int .i64 s.f0, .int .u32 s.f1, .bool s.f2.f0, .slice A s.f2.f1.length c, .int .i64 s.f3] 28 (0, 0)⟩]) S30 rfl rfl rfl rfl sz_30 1 rfl (.inl rfl) rfl rfl rfl ?_
  intro w31 S32 E33
  have HW1n_ := Aside0.mk (R_ext HW1.out E33 (S30.blk 1 rfl) (by decide))
  clear HW1
  have HW1 := HW1n_
  clear HW1n_
  have HO7n_ := Aside0.mk (R_ext HO7.out E33 (S30.blk 1 rfl) (by decide))
  clear HO7
  have HO7 := HO7n_
  clear HO7n_
  have HTn_ := Aside0.mk (HT.out.move (fun k_ hk_ hl_ => E33.block k_ hl_ (fun e_ => by (try dsimp only at e_ hk_); omega)))
  clear HT
  have HT := HTn_
  clear HTn_
  refine q_nil ?_
  refine x_seq ?_
  refine s_seq ?_
  refine s_region ?_
  refine q_val (v := .int .i64 0) (wn rfl) rfl (r_assign rfl) ?_
  refine q_nil ?_
  refine x_seq ?_
  refine s_seq ?_
  refine s_seq ?_
  refine s_region ?_
  refine q_val (v := .pointer (some ⟨g6, 0, none⟩)) (wn rfl) rfl (r_field fld_30_0 rfl rfl) ?_
  refine q_val (v := .int .i64 kd) (wn rfl) rfl (r_load1 sz_3 rfl (S32.cell 1 rfl rfl)) ?_
  refine q_nil ?_
  refine x_seq ?_
  refine s_block ?_
  refine s_seq ?_
  refine s_region ?_
  refine q_val (v := .bool true) (wn rfl) rfl (r_eql rfl rfl (beq_t (by omega))) ?_
  refine q_val (v := .bool true) (wn rfl) rfl (r_assign rfl) ?_
  refine q_nil ?_
  refine x_seq ?_
  refine s_true rfl ?_
  refine s_region ?_
  refine q_val (v := .pointer (some ⟨g, 0, none⟩)) (wn rfl) rfl (r_move rfl) ?_
  refine q_val (v := .pointer (some ⟨g6, 2, none⟩)) (wn rfl) rfl (r_field fld_30_2 rfl rfl) ?_
  refine q_val (v := .pointer (some ⟨g6, 3, none⟩)) (wn rfl) rfl (r_field fld_28_1 rfl rfl) ?_
  refine q_val (v := .int .u32 s1) (wn rfl) rfl (r_load1 sz_23 rfl (S32.cell 1 rfl rfl)) ?_
  refine q_of (wn rfl) ?_
  refine e_call (args := [.pointer (some ⟨g, 0, none⟩), .int .i64 1, .int .u32 s1]) Try.func14 (by kernel_rfl) rfl rfl ?_
  refine (Limit_cap HT.out 1 (by omega) HQ.out s HS.out s1 HSub.out).mono ?_
  rintro e w34 ⟨rfl, hb⟩
  refine ⟨_, rfl, ?_⟩
  have B35 := hb
  have S36 := S32.call B35
  have HW1n_ := Aside0.mk (R_below HW1.out B35)
  clear HW1
  have HW1 := HW1n_
  clear HW1n_
  have HO7n_ := Aside0.mk (R_below HO7.out B35)
  clear HO7
  have HO7 := HO7n_
  clear HO7n_
  have HTn_ := Aside0.mk (HT.out.below B35)
  clear HT
  have HT := HTn_
  clear HTn_
  refine q_val (v := .int .i64 93) (wn rfl) rfl (r_assign rfl) ?_
  refine q_nil ?_
  refine x_blk ?_
  refine x_seq ?_
  refine s_seq ?_
  refine s_region ?_
  refine q_val (v := .pointer (some ⟨g, 0, none⟩)) (wn rfl) rfl (r_move rfl) ?_
  refine q_of (wn rfl) ?_
  refine e_call (args := [.pointer (some ⟨g, 0, none⟩), .int .i64 1, .int .u32 0]) Try.func12 (by kernel_rfl) rfl rfl ?_
  refine (Get_ok HT.out 1 0 (by omega) (s := s) HS.out (subset_zero _) (by omega)).mono ?_
  rintro e w37 ⟨v, rfl, ho, hb⟩
  obtain ⟨Aw2, cw2, rfl⟩ := Kd.R_slice ho
  refine ⟨_, rfl, ?_⟩
  have B38 := hb
  have S39 := S36.call B38
  have HW1n_ := Aside0.mk (R_below HW1.out B38)
  clear HW1
  have HW1 := HW1n_
  clear HW1n_
  have HO7n_ := Aside0.mk (R_below HO7.out B38)
  clear HO7
  have HO7 := HO7n_
  clear HO7n_
  have HTn_ := Aside0.mk (HT.out.below B38)
  clear HT
  have HT := HTn_
  clear HTn_
  have HW2 := Aside0.mk ho
  clear ho
  refine q_val (v := .tuple #[.agg #[.int .i64 s.f0, .int .u32 s.f1, .bool s.f2.f0, .slice Aw2 s.f2.f1.length cw2, .int .i64 s.f3], .int .i64 0]) (wn rfl) rfl (r_move rfl) ?_
  refine q_val (v := .agg #[.int .i64 s.f0, .int .u32 s.f1, .bool s.f2.f0, .slice Aw2 s.f2.f1.length cw2, .int .i64 s.f3]) (wn rfl) rfl (r_extract rfl rfl) ?_
  refine q_val (v := .int .i64 0) (wn rfl) rfl (r_extract rfl rfl) ?_
  refine q_of (wn rfl) ?_
  refine e_alloc S39 zro_28 ?_
  intro g40 w41 hg40 S42 B43
  have zpHTg40 := blk_lt HT.out.row
  have zqHTg40q := tab_slot_lt HT.out HQ.out
  have HW1n_ := Aside0.mk (R_below HW1.out B43)
  clear HW1
  have HW1 := HW1n_
  clear HW1n_
  have HO7n_ := Aside0.mk (R_below HO7.out B43)
  clear HO7
  have HO7 := HO7n_
  clear HO7n_
  have HW2n_ := Aside0.mk (R_below HW2.out B43)
  clear HW2
  have HW2 := HW2n_
  clear HW2n_
  have HTn_ := Aside0.mk ((HT.out.apart (a := g40) (Nat.le_of_eq hg40)).below B43)
  clear HT
  have HT := HTn_
  clear HTn_
  refine q_of (wn rfl) ?_
  refine e_store (vs := [.int .i64 s.f0, .int .u32 s.f1, .bool s.f2.f0, .slice Aw2 s.f2.f1.length cw2, .int .i64 s.f3]) (cs' := [.int .i64 s.f0, .int .u32 s.f1, .bool s.f2.f0, .slice Aw2 s.f2.f1.length cw2, .int .i64 s.f3]) (σ' := [⟨g40, true, .cells #[.int .i64 s.f0, .int .u32 s.f1, .bool s.f2.f0, .slice Aw2 s.f2.f1.length cw2, .int .i64 s.f3] 28 (0, 0)⟩, ⟨g21, true, .cells #[.int .i64 s.f0, .int .u32 s.f1, .bool s.f2.f0, .slice Aw1 s.f2.f1.length cw1, .int .i64 s.f3] 28 (0, 0)⟩, ⟨g6, true, .cells #[.int .i64 kd, .int .i64 fd, .int .i64 s0, .int .u32 s1, .bool b0, .slice B5 ((cut50 l5).length) d5, .int .i64 s3, .slice B7 ((cut50 l7).length) d7] 30 (0, 0)⟩, ⟨g2, true, .cells #[.int .i64 s.f0, .int .u32 s.f1, .bool s.f2.f0, .slice A s.f2.f1.length c, .int .i64 s.f3] 28 (0, 0)⟩]) S42 rfl rfl rfl rfl sz_28 0 rfl (.inl rfl) rfl rfl rfl ?_
  intro w44 S45 E46
  have HW1n_ := Aside0.mk (R_ext HW1.out E46 (S42.blk 0 rfl) (by decide))
  clear HW1
  have HW1 := HW1n_
  clear HW1n_
  have HO7n_ := Aside0.mk (R_ext HO7.out E46 (S42.blk 0 rfl) (by decide))
  clear HO7
  have HO7 := HO7n_
  clear HO7n_
  have HW2n_ := Aside0.mk (R_ext HW2.out E46 (S42.blk 0 rfl) (by decide))
  clear HW2
  have HW2 := HW2n_
  clear HW2n_
  have HTn_ := Aside0.mk (HT.out.move (fun k_ hk_ hl_ => E46.block k_ hl_ (fun e_ => by (try dsimp only at e_ hk_); omega)))
  clear HT
  have HT := HTn_
  clear HTn_
  refine q_val (v := .int .i64 0) (wn rfl) rfl (r_assign rfl) ?_
  refine q_nil ?_
  refine x_seq ?_
  refine s_seq ?_
  refine s_region ?_
  refine q_val (v := .int .i64 0) (wn rfl) rfl (r_move rfl) ?_
  refine q_val (v := .bool true) (wn rfl) rfl (r_eql rfl rfl (beq_t (by omega))) ?_
  refine q_val (v := .bool true) (wn rfl) rfl (r_move rfl) ?_
  refine q_val (v := .agg #[.int .i64 s.f0, .int .u32 s.f1, .bool s.f2.f0, .slice Aw2 s.f2.f1.length cw2, .int .i64 s.f3]) (wan rfl rfl rfl rfl) rfl (r_loadN (vs := [.int .i64 s.f0, .int .u32 s.f1, .bool s.f2.f0, .slice Aw2 s.f2.f1.length cw2, .int .i64 s.f3]) sz_28 rfl (S45.blk 0 rfl) rfl rfl) ?_
  refine q_val (v := .agg #[.int .i64 s.f0, .int .u32 s.f1, .bool s.f2.f0, .slice Aw1 s.f2.f1.length cw1, .int .i64 s.f3]) (wan rfl rfl rfl rfl) rfl (r_loadN (vs := [.int .i64 s.f0, .int .u32 s.f1, .bool s.f2.f0, .slice Aw1 s.f2.f1.length cw1, .int .i64 s.f3]) sz_28 rfl (S45.blk 1 rfl) rfl rfl) ?_
  refine q_of (wan rfl rfl rfl rfl) ?_
  refine e_call (args := [.agg #[.int .i64 s.f0, .int .u32 s.f1, .bool s.f2.f0, .slice Aw2 s.f2.f1.length cw2, .int .i64 s.f3], .agg #[.int .i64 s.f0, .int .u32 s.f1, .bool s.f2.f0, .slice Aw1 s.f2.f1.length cw1, .int .i64 s.f3]]) Try.func17 (by kernel_rfl) rfl rfl ?_
  refine (purlieuref13_Within.calls 400 s.f0 s.f1 s.f2.f0 Aw2 cw2 s.f2.f1 s.f3 s.f0 s.f1 s.f2.f0 Aw1 cw1 s.f2.f1 s.f3 true _ (R_C HW2.out).2 (R_C HW2.out).1 (R_C HW1.out).2 (R_C HW1.out).1 HWi.out).mono ?_
  rintro e w47 ⟨rfl, hb⟩
  refine ⟨_, rfl, ?_⟩
  have B48 := hb
  have S49 := S45.call B48
  have HW1n_ := Aside0.mk (R_below HW1.out B48)
  clear HW1
  have HW1 := HW1n_
  clear HW1n_
  have HO7n_ := Aside0.mk (R_below HO7.out B48)
  clear HO7
  have HO7 := HO7n_
  clear HO7n_
  have HW2n_ := Aside0.mk (R_below HW2.out B48)
  clear HW2
  have HW2 := HW2n_
  clear HW2n_
  have HTn_ := Aside0.mk (HT.out.below B48)
  clear HT
  have HT := HTn_
  clear HTn_
  refine q_val (v := .bool true) (wn rfl) rfl (r_pick_t rfl rfl) ?_
  refine q_val (v := .bool true) (wn rfl) rfl (r_move rfl) ?_
  refine q_val (v := .int .i64 93) (wan rfl rfl rfl rfl) rfl (r_move rfl) ?_
  refine q_val (v := .bool false) (wan rfl rfl rfl rfl) rfl (r_eql rfl rfl (beq_f (by omega))) ?_
  refine q_val (v := .bool false) (wan rfl rfl rfl rfl) rfl (r_move rfl) ?_
  refine q_val (v := .agg #[.int .i64 s.f0, .int .u32 s.f1, .bool s.f2.f0, .slice Aw2 s.f2.f1.length cw2, .int .i64 s.f3]) (wan rfl rfl rfl rfl) rfl (r_loadN (vs := [.int .i64 s.f0, .int .u32 s.f1, .bool s.f2.f0, .slice Aw2 s.f2.f1.length cw2, .int .i64 s.f3]) sz_28 rfl (S49.blk 0 rfl) rfl rfl) ?_
  refine q_val (v := .agg #[.int .i64 s.f0, .int .u32 s.f1, .bool s.f2.f0, .slice Aw1 s.f2.f1.length cw1, .int .i64 s.f3]) (wan rfl rfl rfl rfl) rfl (r_loadN (vs := [.int .i64 s.f0, .int .u32 s.f1, .bool s.f2.f0, .slice Aw1 s.f2.f1.length cw1, .int .i64 s.f3]) sz_28 rfl (S49.blk 1 rfl) rfl rfl) ?_
  refine q_of (wan rfl rfl rfl rfl) ?_
  refine e_call (args := [.agg #[.int .i64 s.f0, .int .u32 s.f1, .bool s.f2.f0, .slice Aw2 s.f2.f1.length cw2, .int .i64 s.f3], .agg #[.int .i64 s.f0, .int .u32 s.f1, .bool s.f2.f0, .slice Aw1 s.f2.f1.length cw1, .int .i64 s.f3]]) Try.func18 (by kernel_rfl) rfl rfl ?_
  obtain ⟨ko, hko⟩ := one_same s (by omega)
  refine (purlieuref13_One.calls ko s.f0 s.f1 s.f2.f0 Aw2 cw2 s.f2.f1 s.f3 s.f0 s.f1 s.f2.f0 Aw1 cw1 s.f2.f1 s.f3 true _ (R_C HW2.out).2 (R_C HW2.out).1 (R_C HW1.out).2 (R_C HW1.out).1 hko).mono ?_
  rintro e w50 ⟨rfl, hb⟩
  refine ⟨_, rfl, ?_⟩
  have B51 := hb
  have S52 := S49.call B51
  have HW1n_ := Aside0.mk (R_below HW1.out B51)
  clear HW1
  have HW1 := HW1n_
  clear HW1n_
  have HO7n_ := Aside0.mk (R_below HO7.out B51)
  clear HO7
  have HO7 := HO7n_
  clear HO7n_
  have HW2n_ := Aside0.mk (R_below HW2.out B51)
  clear HW2
  have HW2 := HW2n_
  clear HW2n_
  have HTn_ := Aside0.mk (HT.out.below B51)
  clear HT
  have HT := HTn_
  clear HTn_
  refine q_val (v := .bool true) (wan rfl rfl rfl rfl) rfl (r_pick_f rfl rfl) ?_
  refine q_val (v := .bool true) (wn rfl) rfl (r_pick_t rfl rfl) ?_
  refine q_val (v := .bool true) (wn rfl) rfl (r_move rfl) ?_
  refine q_of (wan rfl rfl rfl rfl) ?_
  refine e_call (args := []) Try.func10 (by kernel_rfl) rfl rfl ?_
  refine (lives_calls _).mono ?_
  rintro e w53 ⟨rfl, hb⟩
  refine ⟨_, rfl, ?_⟩
  have B54 := hb
  have S55 := S52.call B54
  have HW1n_ := Aside0.mk (R_below HW1.out B54)
  clear HW1
  have HW1 := HW1n_
  clear HW1n_
  have HO7n_ := Aside0.mk (R_below HO7.out B54)
  clear HO7
  have HO7 := HO7n_
  clear HO7n_
  have HW2n_ := Aside0.mk (R_below HW2.out B54)
  clear HW2
  have HW2 := HW2n_
  clear HW2n_
  have HTn_ := Aside0.mk (HT.out.below B54)
  clear HT
  have HT := HTn_
  clear HTn_
  refine q_val (v := .bool true) (wn rfl) rfl (r_pick_t rfl rfl) ?_
  refine q_val (v := .bool true) (wn rfl) rfl (r_assign rfl) ?_
  refine q_nil ?_
  refine x_seq ?_
  refine s_ret ?_
  refine t_ret1 (v := .bool true) rfl rfl ?_
  exact ⟨rfl, S55.ext.below⟩

set_option maxHeartbeats 8000000 in
set_option maxRecDepth 100000 in
theorem SlotsLess_io_ok (s : Slot) (A : Option Addr) (c : Nat) (kd fd s0 s1 : Int) (b0 : Bool) (A5 : Option Addr) (c5 : Nat) (l5 : List Int) (s3 : Int) (A7 : Option Addr) (c7 : Nat) (l7 : List Int) (w : World) (hr : Kd.C (Kd.int .i64) w A s.f2.f1.length s.f2.f1) (hc : s.f2.f1.length ≤ c) (hr5 : Kd.C (Kd.int .i64) w A5 l5.length l5) (hc5 : l5.length ≤ c5) (hr7 : Kd.C (Kd.int .i64) w A7 l7.length l7) (hc7 : l7.length ≤ c7) (hl : s.f2.f1.length ≤ 50) (hcan : canS s = true) (hk : kd = 4) (r1 : Bool) (r2 : List Int) (hsub : white_Limit.f 600 s.f2.f0 s.f2.f1 (cut50 l7) = some (r1, r2, 0)) (n : Slot) (hn : n = ⟨s.f0, s.f1, ⟨r1, r2⟩, s.f3⟩) (hwi : purlieuref13_Within.f 400 n.f0 n.f1 n.f2.f0 n.f2.f1 n.f3 s.f0 s.f1 s.f2.f0 s.f2.f1 s.f3 = some true) (hnl : n.f2.f1.length ≤ 200) :
    Calls Try.prog 3 #[.agg #[.int .i64 s.f0, .int .u32 s.f1, .bool s.f2.f0, .slice A s.f2.f1.length c, .int .i64 s.f3], .agg #[.int .i64 kd, .int .i64 fd, .int .i64 s0, .int .u32 s1, .bool b0, .slice A5 l5.length c5, .int .i64 s3, .slice A7 l7.length c7]] w fun e w' => e = .returned (.bool true) ∧ Below w.heap.size w w' := by
  have HR := Aside0.mk hr
  have HC := Aside0.mk hc
  have HR5 := Aside0.mk hr5
  have HR7 := Aside0.mk hr7
  have HC5 := Aside0.mk hc5
  have HC7 := Aside0.mk hc7
  have HCan := Aside0.mk (show purlieuref13_Can.f 200 s.f0 s.f1 s.f2.f0 s.f2.f1 s.f3 = some true by rw [rcanS s hl, hcan])
  have HCan2 := Aside0.mk (show slots_can.f 200 s.f0 s.f1 s.f2.f0 s.f2.f1 s.f3 = some true by rw [wcanS s hl, hcan])
  have HSub := Aside0.mk hsub
  have HWi := Aside0.mk hwi
  clear hcan hsub hwi hr5 hr7
  refine s_enter (n := 81) (L := [(0, .agg #[.int .i64 s.f0, .int .u32 s.f1, .bool s.f2.f0, .slice A s.f2.f1.length c, .int .i64 s.f3]), (1, .agg #[.int .i64 kd, .int .i64 fd, .int .i64 s0, .int .u32 s1, .bool b0, .slice A5 l5.length c5, .int .i64 s3, .slice A7 l7.length c7])]) Try.func3 rfl rfl rfl rfl ?_
  have S1 := St.start w no
  refine s_seq ?_
  refine s_region ?_
  refine q_of (wn rfl) ?_
  refine e_box (cs := [.int .i64 s.f0, .int .u32 s.f1, .bool s.f2.f0, .slice A s.f2.f1.length c, .int .i64 s.f3]) S1 rfl rfl ?_
  intro g2 w3 hg2 S4 B5
  refine q_of (wn rfl) ?_
  refine e_box (cs := [.int .i64 kd, .int .i64 fd, .int .i64 s0, .int .u32 s1, .bool b0, .slice A5 l5.length c5, .int .i64 s3, .slice A7 l7.length c7]) S4 rfl rfl ?_
  intro g6 w7 hg6 S8 B9
  refine q_val (v := .bool false) (wn rfl) rfl (r_assign rfl) ?_
  refine q_nil ?_
  refine x_seq ?_
  refine s_seq ?_
  refine s_region ?_
  refine q_of (wn rfl) ?_
  refine e_call (args := [.int .i64 3]) Try.func8 (by kernel_rfl) rfl rfl ?_
  have zng6 := heap_lt (S8.blk 0 rfl)
  have zng2 := heap_lt (S8.blk 1 rfl)
  have zw := S8.ext.size
  refine (New_ok 3 (by omega) (by omega) _).mono ?_
  rintro e w10 ⟨g, p, rfl, hT, hb⟩
  refine ⟨_, rfl, ?_⟩
  have B11 := hb
  have S12 := S8.call B11
  have HT := Aside0.mk (tab_base hT)
  have hpb := hT.low.2.1
  clear hT
  refine q_val (v := .pointer (some ⟨g, 0, none⟩)) (wn rfl) rfl (r_assign rfl) ?_
  refine q_nil ?_
  refine x_seq ?_
  refine s_seq ?_
  refine s_seq ?_
  refine s_region ?_
  refine q_val (v := .pointer (some ⟨g, 0, none⟩)) (wn rfl) rfl (r_move rfl) ?_
  refine q_val (v := .bool false) (wn rfl) rfl (r_peql ptr_31 rfl rfl rfl) ?_
  refine q_val (v := .bool false) (wn rfl) rfl (r_move rfl) ?_
  refine q_val (v := .pointer (some ⟨g2, 2, none⟩)) (wan rfl rfl rfl rfl) rfl (r_field fld_28_2 rfl rfl) ?_
  refine q_val (v := .pointer (some ⟨g2, 3, none⟩)) (wan rfl rfl rfl rfl) rfl (r_field fld_26_1 rfl rfl) ?_
  refine q_val (v := .slice A s.f2.f1.length c) (wan rfl rfl rfl rfl) rfl (r_load1 sz_24 rfl (S12.cell 1 rfl rfl)) ?_
  refine q_val (v := .int .i64 ((s.f2.f1.length : Nat) : Int)) (wan rfl rfl rfl rfl) rfl (r_len_slice elm_24 rfl) ?_
  refine q_val (v := .bool false) (wan rfl rfl rfl rfl) rfl (r_gtr rfl rfl (decide_eq_false (by omega))) ?_
  refine q_val (v := .bool false) (wn rfl) rfl (r_pick_f rfl rfl) ?_
  refine q_val (v := .bool false) (wn rfl) rfl (r_move rfl) ?_
  refine q_val (v := .agg #[.int .i64 s.f0, .int .u32 s.f1, .bool s.f2.f0, .slice A s.f2.f1.length c, .int .i64 s.f3]) (wan rfl rfl rfl rfl) rfl (r_loadN (vs := [.int .i64 s.f0, .int .u32 s.f1, .bool s.f2.f0, .slice A s.f2.f1.length c, .int .i64 s.f3]) sz_28 rfl (S12.blk 1 rfl) rfl rfl) ?_
  refine q_of (wan rfl rfl rfl rfl) ?_
  refine e_call (args := [.agg #[.int .i64 s.f0, .int .u32 s.f1, .bool s.f2.f0, .slice A s.f2.f1.length c, .int .i64 s.f3]]) Try.func9 (by kernel_rfl) rfl rfl ?_
  refine (purlieuref13_Can.calls 200 _ _ _ _ _ _ _ true _ (Kd.C_below HR.out S12.ext.below) HC.out HCan.out).mono ?_
  rintro e w13 ⟨rfl, hb⟩
  refine ⟨_, rfl, ?_⟩
  have B14 := hb
  have S15 := S12.call B14
  have HTn_ := Aside0.mk (HT.out.below B14)
  clear HT
  have HT := HTn_
  clear HTn_
  refine q_val (v := .bool false) (wan rfl rfl rfl rfl) rfl (r_not rfl rfl) ?_
  refine q_val (v := .bool false) (wn rfl) rfl (r_pick_f rfl rfl) ?_
  refine q_nil ?_
  refine x_seq ?_
  refine s_false rfl ?_
  refine s_skip ?_
  refine x_seq ?_
  refine s_seq ?_
  refine s_region ?_
  refine q_val (v := .pointer (some ⟨g, 0, none⟩)) (wn rfl) rfl (r_move rfl) ?_
  refine q_val (v := .agg #[.int .i64 s.f0, .int .u32 s.f1, .bool s.f2.f0, .slice A s.f2.f1.length c, .int .i64 s.f3]) (wn rfl) rfl (r_loadN (vs := [.int .i64 s.f0, .int .u32 s.f1, .bool s.f2.f0, .slice A s.f2.f1.length c, .int .i64 s.f3]) sz_28 rfl (S15.blk 1 rfl) rfl rfl) ?_
  refine q_of (wn rfl) ?_
  refine e_call (args := [.pointer (some ⟨g, 0, none⟩), .int .i64 1, .agg #[.int .i64 s.f0, .int .u32 s.f1, .bool s.f2.f0, .slice A s.f2.f1.length c, .int .i64 s.f3]]) Try.func11 (by kernel_rfl) rfl rfl ?_
  have hblk_ := HT.out.row
  refine (Put_at HT.out (tab_okN HT.out) 1 (by omega) (by simp) (by decide) s A c (Kd.C_below HR.out S15.ext.below) HC.out 200 HCan2.out (by omega) 1 rfl).mono ?_
  rintro e w16 ⟨rfl, ⟨q, hT3⟩, hE⟩
  refine ⟨_, rfl, ?_⟩
  have S17 := S15.callX hE (fun x_ hx_ e_ => by simp only [List.mem_cons, List.not_mem_nil, or_false] at hx_; rcases hx_ with rfl | rfl; all_goals ((try dsimp only at e_); omega)) (fun k_ h1_ h2_ => by (try dsimp only at h2_); omega)
  clear HT hblk_
  have HT := Aside0.mk hT3
  have hq_ := (hT3.som 1 q rfl).1
  have HQ := Aside0.mk (show (List.set (List.replicate (Int.toNat 3) (none : Option Nat)) (Int.toNat 1) (some q))[1]? = some (some q) from rfl)
  clear hE hT3
  have HS := Aside0.mk (show (List.set (List.replicate (Int.toNat 3) (none : Option Slot)) (Int.toNat 1) (some s))[1]? = some (some s) from rfl)
  refine q_nil ?_
  refine x_seq ?_
  refine s_seq ?_
  refine s_region ?_
  refine q_val (v := .pointer (some ⟨g, 0, none⟩)) (wn rfl) rfl (r_move rfl) ?_
  refine q_of (wn rfl) ?_
  refine e_call (args := [.pointer (some ⟨g, 0, none⟩), .int .i64 1, .int .u32 0]) Try.func12 (by kernel_rfl) rfl rfl ?_
  refine (Get_ok HT.out 1 0 (by omega) (s := s) HS.out (subset_zero _) (by omega)).mono ?_
  rintro e w18 ⟨v, rfl, ho, hb⟩
  obtain ⟨Aw1, cw1, rfl⟩ := Kd.R_slice ho
  refine ⟨_, rfl, ?_⟩
  have B19 := hb
  have S20 := S17.call B19
  have HTn_ := Aside0.mk (HT.out.below B19)
  clear HT
  have HT := HTn_
  clear HTn_
  have HW1 := Aside0.mk ho
  clear ho
  refine q_val (v := .tuple #[.agg #[.int .i64 s.f0, .int .u32 s.f1, .bool s.f2.f0, .slice Aw1 s.f2.f1.length cw1, .int .i64 s.f3], .int .i64 0]) (wn rfl) rfl (r_move rfl) ?_
  refine q_val (v := .agg #[.int .i64 s.f0, .int .u32 s.f1, .bool s.f2.f0, .slice Aw1 s.f2.f1.length cw1, .int .i64 s.f3]) (wn rfl) rfl (r_extract rfl rfl) ?_
  refine q_val (v := .int .i64 0) (wn rfl) rfl (r_extract rfl rfl) ?_
  refine q_of (wn rfl) ?_
  refine e_alloc S20 zro_28 ?_
  intro g21 w22 hg21 S23 B24
  have zpHTg21 := blk_lt HT.out.row
  have zqHTg21q := tab_slot_lt HT.out HQ.out
  have HW1n_ := Aside0.mk (R_below HW1.out B24)
  clear HW1
  have HW1 := HW1n_
  clear HW1n_
  have HTn_ := Aside0.mk ((HT.out.apart (a := g21) (Nat.le_of_eq hg21)).below B24)
  clear HT
  have HT := HTn_
  clear HTn_
  refine q_of (wn rfl) ?_
  refine e_store (vs := [.int .i64 s.f0, .int .u32 s.f1, .bool s.f2.f0, .slice Aw1 s.f2.f1.length cw1, .int .i64 s.f3]) (cs' := [.int .i64 s.f0, .int .u32 s.f1, .bool s.f2.f0, .slice Aw1 s.f2.f1.length cw1, .int .i64 s.f3]) (σ' := [⟨g21, true, .cells #[.int .i64 s.f0, .int .u32 s.f1, .bool s.f2.f0, .slice Aw1 s.f2.f1.length cw1, .int .i64 s.f3] 28 (0, 0)⟩, ⟨g6, true, .cells #[.int .i64 kd, .int .i64 fd, .int .i64 s0, .int .u32 s1, .bool b0, .slice A5 l5.length c5, .int .i64 s3, .slice A7 l7.length c7] 30 (0, 0)⟩, ⟨g2, true, .cells #[.int .i64 s.f0, .int .u32 s.f1, .bool s.f2.f0, .slice A s.f2.f1.length c, .int .i64 s.f3] 28 (0, 0)⟩]) S23 rfl rfl rfl rfl sz_28 0 rfl (.inl rfl) rfl rfl rfl ?_
  intro w25 S26 E27
  have HW1n_ := Aside0.mk (R_ext HW1.out E27 (S23.blk 0 rfl) (by decide))
  clear HW1
  have HW1 := HW1n_
  clear HW1n_
  have HTn_ := Aside0.mk (HT.out.move (fun k_ hk_ hl_ => E27.block k_ hl_ (fun e_ => by (try dsimp only at e_ hk_); omega)))
  clear HT
  have HT := HTn_
  clear HTn_
  refine q_val (v := .int .i64 0) (wn rfl) rfl (r_assign rfl) ?_
  refine q_nil ?_
  refine x_seq ?_
  refine s_seq ?_
  refine s_region ?_
  refine q_val (v := .agg #[.int .i64 kd, .int .i64 fd, .int .i64 s0, .int .u32 s1, .bool b0, .slice A5 l5.length c5, .int .i64 s3, .slice A7 l7.length c7]) (wn rfl) rfl (r_loadN (vs := [.int .i64 kd, .int .i64 fd, .int .i64 s0, .int .u32 s1, .bool b0, .slice A5 l5.length c5, .int .i64 s3, .slice A7 l7.length c7]) sz_30 rfl (S26.blk 1 rfl) rfl rfl) ?_
  refine q_of (wn rfl) ?_
  refine e_call (args := [.agg #[.int .i64 kd, .int .i64 fd, .int .i64 s0, .int .u32 s1, .bool b0, .slice A5 l5.length c5, .int .i64 s3, .slice A7 l7.length c7]]) Try.func13 (by kernel_rfl) rfl rfl ?_
  refine (own_calls kd fd s0 s1 b0 A5 c5 l5 s3 A7 c7 l7 _ (Kd.C_below HR5.out S26.ext.below) HC5.out (Kd.C_below HR7.out S26.ext.below) HC7.out).mono ?_
  rintro e w28 ⟨v5, v7, rfl, ho5, ho7, hb⟩
  obtain ⟨B5, d5, rfl⟩ := Kd.R_slice ho5
  obtain ⟨B7, d7, rfl⟩ := Kd.R_slice ho7
  refine ⟨_, rfl, ?_⟩
  have B29 := hb
  have S30 := S26.call B29
  have HW1n_ := Aside0.mk (R_below HW1.out B29)
  clear HW1
  have HW1 := HW1n_
  clear HW1n_
  have HTn_ := Aside0.mk (HT.out.below B29)
  clear HT
  have HT := HTn_
  clear HTn_
  have HO7 := Aside0.mk ho7
  clear ho5 ho7
  refine q_of (wn rfl) ?_
  refine e_store (vs := [.int .i64 kd, .int .i64 fd, .int .i64 s0, .int .u32 s1, .bool b0, .slice B5 ((cut50 l5).length) d5, .int .i64 s3, .slice B7 ((cut50 l7).length) d7]) (cs' := [.int .i64 kd, .int .i64 fd, .int .i64 s0, .int .u32 s1, .bool b0, .slice B5 ((cut50 l5).length) d5, .int .i64 s3, .slice B7 ((cut50 l7).length) d7]) (σ' := [⟨g21, true, .cells #[.int .i64 s.f0, .int .u32 s.f1, .bool s.f2.f0, .slice Aw1 s.f2.f1.length cw1, .int .i64 s.f3] 28 (0, 0)⟩, ⟨g6, true, .cells #[.int .i64 kd, .int .i64 fd, .int .i64 s0, .int .u32 s1, .bool b0, .slice B5 ((cut50 l5).length) d5, .int .i64 s3, .slice B7 ((cut50 l7).length) d7] 30 (0, 0)⟩, ⟨g2, true, .cells #[.int .i64 s.f0, .int .u32 s.f1, .bool s.f2.f0, .slice A s.f2.f1.length c, .int .i64 s.f3] 28 (0, 0)⟩]) S30 rfl rfl rfl rfl sz_30 1 rfl (.inl rfl) rfl rfl rfl ?_
  intro w31 S32 E33
  have HW1n_ := Aside0.mk (R_ext HW1.out E33 (S30.blk 1 rfl) (by decide))
  clear HW1
  have HW1 := HW1n_
  clear HW1n_
  have HO7n_ := Aside0.mk (R_ext HO7.out E33 (S30.blk 1 rfl) (by decide))
  clear HO7
  have HO7 := HO7n_
  clear HO7n_
  have HTn_ := Aside0.mk (HT.out.move (fun k_ hk_ hl_ => E33.block k_ hl_ (fun e_ => by (try dsimp only at e_ hk_); omega)))
  clear HT
  have HT := HTn_
  clear HTn_
  refine q_nil ?_
  refine x_seq ?_
  refine s_seq ?_
  refine s_region ?_
  refine q_val (v := .int .i64 0) (wn rfl) rfl (r_assign rfl) ?_
  refine q_nil ?_
  refine x_seq ?_
  refine s_seq ?_
  refine s_seq ?_
  refine s_region ?_
  refine q_val (v := .pointer (some ⟨g6, 0, none⟩)) (wn rfl) rfl (r_field fld_30_0 rfl rfl) ?_
  refine q_val (v := .int .i64 kd) (wn rfl) rfl (r_load1 sz_3 rfl (S32.cell 1 rfl rfl)) ?_
  refine q_nil ?_
  refine x_seq ?_
  refine s_block ?_
  refine s_seq ?_
  refine s_region ?_
  refine q_val (v := .bool false) (wn rfl) rfl (r_eql rfl rfl (beq_f (by omega))) ?_
  refine q_val (v := .bool false) (wn rfl) rfl (r_assign rfl) ?_
  refine q_nil ?_
  refine x_seq ?_
  refine s_false rfl ?_
  refine s_seq ?_
  refine s_region ?_
  refine q_val (v := .bool true) (wn rfl) rfl (r_eql rfl rfl (beq_t (by omega))) ?_
  refine q_val (v := .bool true) (wn rfl) rfl (r_assign rfl) ?_
  refine q_nil ?_
  refine x_seq ?_
  refine s_true rfl ?_
  refine s_region ?_
  refine q_val (v := .pointer (some ⟨g, 0, none⟩)) (wn rfl) rfl (r_move rfl) ?_
  refine q_val (v := .pointer (some ⟨g6, 7, none⟩)) (wn rfl) rfl (r_field fld_30_3 rfl rfl) ?_
  refine q_val (v := .slice B7 ((cut50 l7).length) d7) (wn rfl) rfl (r_load1 sz_24 rfl (S32.cell 1 rfl rfl)) ?_
  refine q_of (wn rfl) ?_
  refine e_call (args := [.pointer (some ⟨g, 0, none⟩), .int .i64 1, .slice B7 ((cut50 l7).length) d7]) Try.func15 (by kernel_rfl) rfl rfl ?_
  obtain ⟨_, _, s_, _, A_, c_, hblk_, _⟩ := HT.out.som 1 q HQ.out
  refine (LimitIoctls_ok HT.out 1 (by omega) HQ.out s HS.out (tab_ok2 HT.out (heap_lt (S32.blk 0 rfl))) 600 B7 (cut50 l7) d7 (R_C HO7.out).2 (R_C HO7.out).1 r1 r2 HSub.out).mono ?_
  rintro e w34 ⟨rfl, hT3, hE⟩
  refine ⟨_, rfl, ?_⟩
  have S35 := S32.callX hE (fun x_ hx_ e_ => by simp only [List.mem_cons, List.not_mem_nil, or_false] at hx_; rcases hx_ with rfl | rfl | rfl; all_goals ((try dsimp only at e_); omega)) (fun k_ h1_ h2_ => by (try dsimp only at h2_); omega)
  have HW1n_ := Aside0.mk (R_ext HW1.out hE hblk_ (by decide))
  clear HW1
  have HW1 := HW1n_
  clear HW1n_
  have HO7n_ := Aside0.mk (R_ext HO7.out hE hblk_ (by decide))
  clear HO7
  have HO7 := HO7n_
  clear HO7n_
  rw [← hn] at hT3
  clear HT hblk_
  have HT := Aside0.mk hT3
  clear HS
  have HS := Aside0.mk (show (List.set (List.set (List.replicate (Int.toNat 3) (none : Option Slot)) (Int.toNat 1) (some s)) (Int.toNat 1) (some n))[1]? = some (some n) from rfl)
  clear hE hT3
  refine q_val (v := .int .i64 0) (wn rfl) rfl (r_assign rfl) ?_
  refine q_nil ?_
  refine x_blk ?_
  refine x_seq ?_
  refine s_seq ?_
  refine s_region ?_
  refine q_val (v := .pointer (some ⟨g, 0, none⟩)) (wn rfl) rfl (r_move rfl) ?_
  refine q_of (wn rfl) ?_
  refine e_call (args := [.pointer (some ⟨g, 0, none⟩), .int .i64 1, .int .u32 0]) Try.func12 (by kernel_rfl) rfl rfl ?_
  refine (Get_ok HT.out 1 0 (by omega) (s := n) HS.out (subset_zero _) (by omega)).mono ?_
  rintro e w36 ⟨v, rfl, ho, hb⟩
  obtain ⟨Aw2, cw2, rfl⟩ := Kd.R_slice ho
  refine ⟨_, rfl, ?_⟩
  have B37 := hb
  have S38 := S35.call B37
  have HW1n_ := Aside0.mk (R_below HW1.out B37)
  clear HW1
  have HW1 := HW1n_
  clear HW1n_
  have HO7n_ := Aside0.mk (R_below HO7.out B37)
  clear HO7
  have HO7 := HO7n_
  clear HO7n_
  have HTn_ := Aside0.mk (HT.out.below B37)
  clear HT
  have HT := HTn_
  clear HTn_
  have HW2 := Aside0.mk ho
  clear ho
  refine q_val (v := .tuple #[.agg #[.int .i64 n.f0, .int .u32 n.f1, .bool n.f2.f0, .slice Aw2 n.f2.f1.length cw2, .int .i64 n.f3], .int .i64 0]) (wn rfl) rfl (r_move rfl) ?_
  refine q_val (v := .agg #[.int .i64 n.f0, .int .u32 n.f1, .bool n.f2.f0, .slice Aw2 n.f2.f1.length cw2, .int .i64 n.f3]) (wn rfl) rfl (r_extract rfl rfl) ?_
  refine q_val (v := .int .i64 0) (wn rfl) rfl (r_extract rfl rfl) ?_
  refine q_of (wn rfl) ?_
  refine e_alloc S38 zro_28 ?_
  intro g39 w40 hg39 S41 B42
  have zpHTg39 := blk_lt HT.out.row
  have zqHTg39q := tab_slot_lt HT.out HQ.out
  have HW1n_ := Aside0.mk (R_below HW1.out B42)
  clear HW1
  have HW1 := HW1n_
  clear HW1n_
  have HO7n_ := Aside0.mk (R_below HO7.out B42)
  clear HO7
  have HO7 := HO7n_
  clear HO7n_
  have HW2n_ := Aside0.mk (R_below HW2.out B42)
  clear HW2
  have HW2 := HW2n_
  clear HW2n_
  have HTn_ := Aside0.mk ((HT.out.apart (a := g39) (Nat.le_of_eq hg39)).below B42)
  clear HT
  have HT := HTn_
  clear HTn_
  refine q_of (wn rfl) ?_
  refine e_store (vs := [.int .i64 n.f0, .int .u32 n.f1, .bool n.f2.f0, .slice Aw2 n.f2.f1.length cw2, .int .i64 n.f3]) (cs' := [.int .i64 n.f0, .int .u32 n.f1, .bool n.f2.f0, .slice Aw2 n.f2.f1.length cw2, .int .i64 n.f3]) (σ' := [⟨g39, true, .cells #[.int .i64 n.f0, .int .u32 n.f1, .bool n.f2.f0, .slice Aw2 n.f2.f1.length cw2, .int .i64 n.f3] 28 (0, 0)⟩, ⟨g21, true, .cells #[.int .i64 s.f0, .int .u32 s.f1, .bool s.f2.f0, .slice Aw1 s.f2.f1.length cw1, .int .i64 s.f3] 28 (0, 0)⟩, ⟨g6, true, .cells #[.int .i64 kd, .int .i64 fd, .int .i64 s0, .int .u32 s1, .bool b0, .slice B5 ((cut50 l5).length) d5, .int .i64 s3, .slice B7 ((cut50 l7).length) d7] 30 (0, 0)⟩, ⟨g2, true, .cells #[.int .i64 s.f0, .int .u32 s.f1, .bool s.f2.f0, .slice A s.f2.f1.length c, .int .i64 s.f3] 28 (0, 0)⟩]) S41 rfl rfl rfl rfl sz_28 0 rfl (.inl rfl) rfl rfl rfl ?_
  intro w43 S44 E45
  have HW1n_ := Aside0.mk (R_ext HW1.out E45 (S41.blk 0 rfl) (by decide))
  clear HW1
  have HW1 := HW1n_
  clear HW1n_
  have HO7n_ := Aside0.mk (R_ext HO7.out E45 (S41.blk 0 rfl) (by decide))
  clear HO7
  have HO7 := HO7n_
  clear HO7n_
  have HW2n_ := Aside0.mk (R_ext HW2.out E45 (S41.blk 0 rfl) (by decide))
  clear HW2
  have HW2 := HW2n_
  clear HW2n_
  have HTn_ := Aside0.mk (HT.out.move (fun k_ hk_ hl_ => E45.block k_ hl_ (fun e_ => by (try dsimp only at e_ hk_); omega)))
  clear HT
  have HT := HTn_
  clear HTn_
  refine q_val (v := .int .i64 0) (wn rfl) rfl (r_assign rfl) ?_
  refine q_nil ?_
  refine x_seq ?_
  refine s_seq ?_
  refine s_region ?_
  refine q_val (v := .int .i64 0) (wn rfl) rfl (r_move rfl) ?_
  refine q_val (v := .bool true) (wn rfl) rfl (r_eql rfl rfl (beq_t (by omega))) ?_
  refine q_val (v := .bool true) (wn rfl) rfl (r_move rfl) ?_
  refine q_val (v := .agg #[.int .i64 n.f0, .int .u32 n.f1, .bool n.f2.f0, .slice Aw2 n.f2.f1.length cw2, .int .i64 n.f3]) (wan rfl rfl rfl rfl) rfl (r_loadN (vs := [.int .i64 n.f0, .int .u32 n.f1, .bool n.f2.f0, .slice Aw2 n.f2.f1.length cw2, .int .i64 n.f3]) sz_28 rfl (S44.blk 0 rfl) rfl rfl) ?_
  refine q_val (v := .agg #[.int .i64 s.f0, .int .u32 s.f1, .bool s.f2.f0, .slice Aw1 s.f2.f1.length cw1, .int .i64 s.f3]) (wan rfl rfl rfl rfl) rfl (r_loadN (vs := [.int .i64 s.f0, .int .u32 s.f1, .bool s.f2.f0, .slice Aw1 s.f2.f1.length cw1, .int .i64 s.f3]) sz_28 rfl (S44.blk 1 rfl) rfl rfl) ?_
  refine q_of (wan rfl rfl rfl rfl) ?_
  refine e_call (args := [.agg #[.int .i64 n.f0, .int .u32 n.f1, .bool n.f2.f0, .slice Aw2 n.f2.f1.length cw2, .int .i64 n.f3], .agg #[.int .i64 s.f0, .int .u32 s.f1, .bool s.f2.f0, .slice Aw1 s.f2.f1.length cw1, .int .i64 s.f3]]) Try.func17 (by kernel_rfl) rfl rfl ?_
  refine (purlieuref13_Within.calls 400 n.f0 n.f1 n.f2.f0 Aw2 cw2 n.f2.f1 n.f3 s.f0 s.f1 s.f2.f0 Aw1 cw1 s.f2.f1 s.f3 true _ (R_C HW2.out).2 (R_C HW2.out).1 (R_C HW1.out).2 (R_C HW1.out).1 HWi.out).mono ?_
  rintro e w46 ⟨rfl, hb⟩
  refine ⟨_, rfl, ?_⟩
  have B47 := hb
  have S48 := S44.call B47
  have HW1n_ := Aside0.mk (R_below HW1.out B47)
  clear HW1
  have HW1 := HW1n_
  clear HW1n_
  have HO7n_ := Aside0.mk (R_below HO7.out B47)
  clear HO7
  have HO7 := HO7n_
  clear HO7n_
  have HW2n_ := Aside0.mk (R_below HW2.out B47)
  clear HW2
  have HW2 := HW2n_
  clear HW2n_
  have HTn_ := Aside0.mk (HT.out.below B47)
  clear HT
  have HT := HTn_
  clear HTn_
  refine q_val (v := .bool true) (wn rfl) rfl (r_pick_t rfl rfl) ?_
  refine q_val (v := .bool true) (wn rfl) rfl (r_move rfl) ?_
  refine q_val (v := .int .i64 0) (wan rfl rfl rfl rfl) rfl (r_move rfl) ?_
  refine q_val (v := .bool true) (wan rfl rfl rfl rfl) rfl (r_eql rfl rfl (beq_t (by omega))) ?_
  refine q_val (v := .bool true) (wan rfl rfl rfl rfl) rfl (r_move rfl) ?_
  refine q_skip (unwan rfl rfl rfl rfl rfl) rfl ?_
  refine q_skip (unwan rfl rfl rfl rfl rfl) rfl ?_
  refine q_skip (unwan rfl rfl rfl rfl rfl) rfl ?_
  refine q_val (v := .bool true) (wan rfl rfl rfl rfl) rfl (r_pick_t rfl rfl) ?_
  refine q_val (v := .bool true) (wn rfl) rfl (r_pick_t rfl rfl) ?_
  refine q_val (v := .bool true) (wn rfl) rfl (r_move rfl) ?_
  refine q_of (wan rfl rfl rfl rfl) ?_
  refine e_call (args := []) Try.func10 (by kernel_rfl) rfl rfl ?_
  refine (lives_calls _).mono ?_
  rintro e w49 ⟨rfl, hb⟩
  refine ⟨_, rfl, ?_⟩
  have B50 := hb
  have S51 := S48.call B50
  have HW1n_ := Aside0.mk (R_below HW1.out B50)
  clear HW1
  have HW1 := HW1n_
  clear HW1n_
  have HO7n_ := Aside0.mk (R_below HO7.out B50)
  clear HO7
  have HO7 := HO7n_
  clear HO7n_
  have HW2n_ := Aside0.mk (R_below HW2.out B50)
  clear HW2
  have HW2 := HW2n_
  clear HW2n_
  have HTn_ := Aside0.mk (HT.out.below B50)
  clear HT
  have HT := HTn_
  clear HTn_
  refine q_val (v := .bool true) (wn rfl) rfl (r_pick_t rfl rfl) ?_
  refine q_val (v := .bool true) (wn rfl) rfl (r_assign rfl) ?_
  refine q_nil ?_
  refine x_seq ?_
  refine s_ret ?_
  refine t_ret1 (v := .bool true) rfl rfl ?_
  exact ⟨rfl, S51.ext.below⟩

set_option maxHeartbeats 8000000 in
set_option maxRecDepth 100000 in
theorem SlotsLess_io_bad (s : Slot) (A : Option Addr) (c : Nat) (kd fd s0 s1 : Int) (b0 : Bool) (A5 : Option Addr) (c5 : Nat) (l5 : List Int) (s3 : Int) (A7 : Option Addr) (c7 : Nat) (l7 : List Int) (w : World) (hr : Kd.C (Kd.int .i64) w A s.f2.f1.length s.f2.f1) (hc : s.f2.f1.length ≤ c) (hr5 : Kd.C (Kd.int .i64) w A5 l5.length l5) (hc5 : l5.length ≤ c5) (hr7 : Kd.C (Kd.int .i64) w A7 l7.length l7) (hc7 : l7.length ≤ c7) (hl : s.f2.f1.length ≤ 50) (hcan : canS s = true) (hk : kd = 4) (r1 : Bool) (r2 : List Int) (r3 : Int) (hsub : white_Limit.f 600 s.f2.f0 s.f2.f1 (cut50 l7) = some (r1, r2, r3)) (he : r3 ≠ 0) (hwi : purlieuref13_Within.f 400 s.f0 s.f1 s.f2.f0 s.f2.f1 s.f3 s.f0 s.f1 s.f2.f0 s.f2.f1 s.f3 = some true) :
    Calls Try.prog 3 #[.agg #[.int .i64 s.f0, .int .u32 s.f1, .bool s.f2.f0, .slice A s.f2.f1.length c, .int .i64 s.f3], .agg #[.int .i64 kd, .int .i64 fd, .int .i64 s0, .int .u32 s1, .bool b0, .slice A5 l5.length c5, .int .i64 s3, .slice A7 l7.length c7]] w fun e w' => e = .returned (.bool true) ∧ Below w.heap.size w w' := by
  have HR := Aside0.mk hr
  have HC := Aside0.mk hc
  have HR5 := Aside0.mk hr5
  have HR7 := Aside0.mk hr7
  have HC5 := Aside0.mk hc5
  have HC7 := Aside0.mk hc7
  have HCan := Aside0.mk (show purlieuref13_Can.f 200 s.f0 s.f1 s.f2.f0 s.f2.f1 s.f3 = some true by rw [rcanS s hl, hcan])
  have HCan2 := Aside0.mk (show slots_can.f 200 s.f0 s.f1 s.f2.f0 s.f2.f1 s.f3 = some true by rw [wcanS s hl, hcan])
  have HSub := Aside0.mk hsub
  have HWi := Aside0.mk hwi
  clear hcan hsub hwi hr5 hr7
  refine s_enter (n := 81) (L := [(0, .agg #[.int .i64 s.f0, .int .u32 s.f1, .bool s.f2.f0, .slice A s.f2.f1.length c, .int .i64 s.f3]), (1, .agg #[.int .i64 kd, .int .i64 fd, .int .i64 s0, .int .u32 s1, .bool b0, .slice A5 l5.length c5, .int .i64 s3, .slice A7 l7.length c7])]) Try.func3 rfl rfl rfl rfl ?_
  have S1 := St.start w no
  refine s_seq ?_
  refine s_region ?_
  refine q_of (wn rfl) ?_
  refine e_box (cs := [.int .i64 s.f0, .int .u32 s.f1, .bool s.f2.f0, .slice A s.f2.f1.length c, .int .i64 s.f3]) S1 rfl rfl ?_
  intro g2 w3 hg2 S4 B5
  refine q_of (wn rfl) ?_
  refine e_box (cs := [.int .i64 kd, .int .i64 fd, .int .i64 s0, .int .u32 s1, .bool b0, .slice A5 l5.length c5, .int .i64 s3, .slice A7 l7.length c7]) S4 rfl rfl ?_
  intro g6 w7 hg6 S8 B9
  refine q_val (v := .bool false) (wn rfl) rfl (r_assign rfl) ?_
  refine q_nil ?_
  refine x_seq ?_
  refine s_seq ?_
  refine s_region ?_
  refine q_of (wn rfl) ?_
  refine e_call (args := [.int .i64 3]) Try.func8 (by kernel_rfl) rfl rfl ?_
  have zng6 := heap_lt (S8.blk 0 rfl)
  have zng2 := heap_lt (S8.blk 1 rfl)
  have zw := S8.ext.size
  refine (New_ok 3 (by omega) (by omega) _).mono ?_
  rintro e w10 ⟨g, p, rfl, hT, hb⟩
  refine ⟨_, rfl, ?_⟩
  have B11 := hb
  have S12 := S8.call B11
  have HT := Aside0.mk (tab_base hT)
  have hpb := hT.low.2.1
  clear hT
  refine q_val (v := .pointer (some ⟨g, 0, none⟩)) (wn rfl) rfl (r_assign rfl) ?_
  refine q_nil ?_
  refine x_seq ?_
  refine s_seq ?_
  refine s_seq ?_
  refine s_region ?_
  refine q_val (v := .pointer (some ⟨g, 0, none⟩)) (wn rfl) rfl (r_move rfl) ?_
  refine q_val (v := .bool false) (wn rfl) rfl (r_peql ptr_31 rfl rfl rfl) ?_
  refine q_val (v := .bool false) (wn rfl) rfl (r_move rfl) ?_
  refine q_val (v := .pointer (some ⟨g2, 2, none⟩)) (wan rfl rfl rfl rfl) rfl (r_field fld_28_2 rfl rfl) ?_
  refine q_val (v := .pointer (some ⟨g2, 3, none⟩)) (wan rfl rfl rfl rfl) rfl (r_field fld_26_1 rfl rfl) ?_
  refine q_val (v := .slice A s.f2.f1.length c) (wan rfl rfl rfl rfl) rfl (r_load1 sz_24 rfl (S12.cell 1 rfl rfl)) ?_
  refine q_val (v := .int .i64 ((s.f2.f1.length : Nat) : Int)) (wan rfl rfl rfl rfl) rfl (r_len_slice elm_24 rfl) ?_
  refine q_val (v := .bool false) (wan rfl rfl rfl rfl) rfl (r_gtr rfl rfl (decide_eq_false (by omega))) ?_
  refine q_val (v := .bool false) (wn rfl) rfl (r_pick_f rfl rfl) ?_
  refine q_val (v := .bool false) (wn rfl) rfl (r_move rfl) ?_
  refine q_val (v := .agg #[.int .i64 s.f0, .int .u32 s.f1, .bool s.f2.f0, .slice A s.f2.f1.length c, .int .i64 s.f3]) (wan rfl rfl rfl rfl) rfl (r_loadN (vs := [.int .i64 s.f0, .int .u32 s.f1, .bool s.f2.f0, .slice A s.f2.f1.length c, .int .i64 s.f3]) sz_28 rfl (S12.blk 1 rfl) rfl rfl) ?_
  refine q_of (wan rfl rfl rfl rfl) ?_
  refine e_call (args := [.agg #[.int .i64 s.f0, .int .u32 s.f1, .bool s.f2.f0, .slice A s.f2.f1.length c, .int .i64 s.f3]]) Try.func9 (by kernel_rfl) rfl rfl ?_
  refine (purlieuref13_Can.calls 200 _ _ _ _ _ _ _ true _ (Kd.C_below HR.out S12.ext.below) HC.out HCan.out).mono ?_
  rintro e w13 ⟨rfl, hb⟩
  refine ⟨_, rfl, ?_⟩
  have B14 := hb
  have S15 := S12.call B14
  have HTn_ := Aside0.mk (HT.out.below B14)
  clear HT
  have HT := HTn_
  clear HTn_
  refine q_val (v := .bool false) (wan rfl rfl rfl rfl) rfl (r_not rfl rfl) ?_
  refine q_val (v := .bool false) (wn rfl) rfl (r_pick_f rfl rfl) ?_
  refine q_nil ?_
  refine x_seq ?_
  refine s_false rfl ?_
  refine s_skip ?_
  refine x_seq ?_
  refine s_seq ?_
  refine s_region ?_
  refine q_val (v := .pointer (some ⟨g, 0, none⟩)) (wn rfl) rfl (r_move rfl) ?_
  refine q_val (v := .agg #[.int .i64 s.f0, .int .u32 s.f1, .bool s.f2.f0, .slice A s.f2.f1.length c, .int .i64 s.f3]) (wn rfl) rfl (r_loadN (vs := [.int .i64 s.f0, .int .u32 s.f1, .bool s.f2.f0, .slice A s.f2.f1.length c, .int .i64 s.f3]) sz_28 rfl (S15.blk 1 rfl) rfl rfl) ?_
  refine q_of (wn rfl) ?_
  refine e_call (args := [.pointer (some ⟨g, 0, none⟩), .int .i64 1, .agg #[.int .i64 s.f0, .int .u32 s.f1, .bool s.f2.f0, .slice A s.f2.f1.length c, .int .i64 s.f3]]) Try.func11 (by kernel_rfl) rfl rfl ?_
  have hblk_ := HT.out.row
  refine (Put_at HT.out (tab_okN HT.out) 1 (by omega) (by simp) (by decide) s A c (Kd.C_below HR.out S15.ext.below) HC.out 200 HCan2.out (by omega) 1 rfl).mono ?_
  rintro e w16 ⟨rfl, ⟨q, hT3⟩, hE⟩
  refine ⟨_, rfl, ?_⟩
  have S17 := S15.callX hE (fun x_ hx_ e_ => by simp only [List.mem_cons, List.not_mem_nil, or_false] at hx_; rcases hx_ with rfl | rfl; all_goals ((try dsimp only at e_); omega)) (fun k_ h1_ h2_ => by (try dsimp only at h2_); omega)
  clear HT hblk_
  have HT := Aside0.mk hT3
  have hq_ := (hT3.som 1 q rfl).1
  have HQ := Aside0.mk (show (List.set (List.replicate (Int.toNat 3) (none : Option Nat)) (Int.toNat 1) (some q))[1]? = some (some q) from rfl)
  clear hE hT3
  have HS := Aside0.mk (show (List.set (List.replicate (Int.toNat 3) (none : Option Slot)) (Int.toNat 1) (some s))[1]? = some (some s) from rfl)
  refine q_nil ?_
  refine x_seq ?_
  refine s_seq ?_
  refine s_region ?_
  refine q_val (v := .pointer (some ⟨g, 0, none⟩)) (wn rfl) rfl (r_move rfl) ?_
  refine q_of (wn rfl) ?_
  refine e_call (args := [.pointer (some ⟨g, 0, none⟩), .int .i64 1, .int .u32 0]) Try.func12 (by kernel_rfl) rfl rfl ?_
  refine (Get_ok HT.out 1 0 (by omega) (s := s) HS.out (subset_zero _) (by omega)).mono ?_
  rintro e w18 ⟨v, rfl, ho, hb⟩
  obtain ⟨Aw1, cw1, rfl⟩ := Kd.R_slice ho
  refine ⟨_, rfl, ?_⟩
  have B19 := hb
  have S20 := S17.call B19
  have HTn_ := Aside0.mk (HT.out.below B19)
  clear HT
  have HT := HTn_
  clear HTn_
  have HW1 := Aside0.mk ho
  clear ho
  refine q_val (v := .tuple #[.agg #[.int .i64 s.f0, .int .u32 s.f1, .bool s.f2.f0, .slice Aw1 s.f2.f1.length cw1, .int .i64 s.f3], .int .i64 0]) (wn rfl) rfl (r_move rfl) ?_
  refine q_val (v := .agg #[.int .i64 s.f0, .int .u32 s.f1, .bool s.f2.f0, .slice Aw1 s.f2.f1.length cw1, .int .i64 s.f3]) (wn rfl) rfl (r_extract rfl rfl) ?_
  refine q_val (v := .int .i64 0) (wn rfl) rfl (r_extract rfl rfl) ?_
  refine q_of (wn rfl) ?_
  refine e_alloc S20 zro_28 ?_
  intro g21 w22 hg21 S23 B24
  have zpHTg21 := blk_lt HT.out.row
  have zqHTg21q := tab_slot_lt HT.out HQ.out
  have HW1n_ := Aside0.mk (R_below HW1.out B24)
  clear HW1
  have HW1 := HW1n_
  clear HW1n_
  have HTn_ := Aside0.mk ((HT.out.apart (a := g21) (Nat.le_of_eq hg21)).below B24)
  clear HT
  have HT := HTn_
  clear HTn_
  refine q_of (wn rfl) ?_
  refine e_store (vs := [.int .i64 s.f0, .int .u32 s.f1, .bool s.f2.f0, .slice Aw1 s.f2.f1.length cw1, .int .i64 s.f3]) (cs' := [.int .i64 s.f0, .int .u32 s.f1, .bool s.f2.f0, .slice Aw1 s.f2.f1.length cw1, .int .i64 s.f3]) (σ' := [⟨g21, true, .cells #[.int .i64 s.f0, .int .u32 s.f1, .bool s.f2.f0, .slice Aw1 s.f2.f1.length cw1, .int .i64 s.f3] 28 (0, 0)⟩, ⟨g6, true, .cells #[.int .i64 kd, .int .i64 fd, .int .i64 s0, .int .u32 s1, .bool b0, .slice A5 l5.length c5, .int .i64 s3, .slice A7 l7.length c7] 30 (0, 0)⟩, ⟨g2, true, .cells #[.int .i64 s.f0, .int .u32 s.f1, .bool s.f2.f0, .slice A s.f2.f1.length c, .int .i64 s.f3] 28 (0, 0)⟩]) S23 rfl rfl rfl rfl sz_28 0 rfl (.inl rfl) rfl rfl rfl ?_
  intro w25 S26 E27
  have HW1n_ := Aside0.mk (R_ext HW1.out E27 (S23.blk 0 rfl) (by decide))
  clear HW1
  have HW1 := HW1n_
  clear HW1n_
  have HTn_ := Aside0.mk (HT.out.move (fun k_ hk_ hl_ => E27.block k_ hl_ (fun e_ => by (try dsimp only at e_ hk_); omega)))
  clear HT
  have HT := HTn_
  clear HTn_
  refine q_val (v := .int .i64 0) (wn rfl) rfl (r_assign rfl) ?_
  refine q_nil ?_
  refine x_seq ?_
  refine s_seq ?_
  refine s_region ?_
  refine q_val (v := .agg #[.int .i64 kd, .int .i64 fd, .int .i64 s0, .int .u32 s1, .bool b0, .slice A5 l5.length c5, .int .i64 s3, .slice A7 l7.length c7]) (wn rfl) rfl (r_loadN (vs := [.int .i64 kd, .int .i64 fd, .int .i64 s0, .int .u32 s1, .bool b0, .slice A5 l5.length c5, .int .i64 s3, .slice A7 l7.length c7]) sz_30 rfl (S26.blk 1 rfl) rfl rfl) ?_
  refine q_of (wn rfl) ?_
  refine e_call (args := [.agg #[.int .i64 kd, .int .i64 fd, .int .i64 s0, .int .u32 s1, .bool b0, .slice A5 l5.length c5, .int .i64 s3, .slice A7 l7.length c7]]) Try.func13 (by kernel_rfl) rfl rfl ?_
  refine (own_calls kd fd s0 s1 b0 A5 c5 l5 s3 A7 c7 l7 _ (Kd.C_below HR5.out S26.ext.below) HC5.out (Kd.C_below HR7.out S26.ext.below) HC7.out).mono ?_
  rintro e w28 ⟨v5, v7, rfl, ho5, ho7, hb⟩
  obtain ⟨B5, d5, rfl⟩ := Kd.R_slice ho5
  obtain ⟨B7, d7, rfl⟩ := Kd.R_slice ho7
  refine ⟨_, rfl, ?_⟩
  have B29 := hb
  have S30 := S26.call B29
  have HW1n_ := Aside0.mk (R_below HW1.out B29)
  clear HW1
  have HW1 := HW1n_
  clear HW1n_
  have HTn_ := Aside0.mk (HT.out.below B29)
  clear HT
  have HT := HTn_
  clear HTn_
  have HO7 := Aside0.mk ho7
  clear ho5 ho7
  refine q_of (wn rfl) ?_
  refine e_store (vs := [.int .i64 kd, .int .i64 fd, .int .i64 s0, .int .u32 s1, .bool b0, .slice B5 ((cut50 l5).length) d5, .int .i64 s3, .slice B7 ((cut50 l7).length) d7]) (cs' := [.int .i64 kd, .int .i64 fd, .int .i64 s0, .int .u32 s1, .bool b0, .slice B5 ((cut50 l5).length) d5, .int .i64 s3, .slice B7 ((cut50 l7).length) d7]) (σ' := [⟨g21, true, .cells #[.int .i64 s.f0, .int .u32 s.f1, .bool s.f2.f0, .slice Aw1 s.f2.f1.length cw1, .int .i64 s.f3] 28 (0, 0)⟩, ⟨g6, true, .cells #[.int .i64 kd, .int .i64 fd, .int .i64 s0, .int .u32 s1, .bool b0, .slice B5 ((cut50 l5).length) d5, .int .i64 s3, .slice B7 ((cut50 l7).length) d7] 30 (0, 0)⟩, ⟨g2, true, .cells #[.int .i64 s.f0, .int .u32 s.f1, .bool s.f2.f0, .slice A s.f2.f1.length c, .int .i64 s.f3] 28 (0, 0)⟩]) S30 rfl rfl rfl rfl sz_30 1 rfl (.inl rfl) rfl rfl rfl ?_
  intro w31 S32 E33
  have HW1n_ := Aside0.mk (R_ext HW1.out E33 (S30.blk 1 rfl) (by decide))
  clear HW1
  have HW1 := HW1n_
  clear HW1n_
  have HO7n_ := Aside0.mk (R_ext HO7.out E33 (S30.blk 1 rfl) (by decide))
  clear HO7
  have HO7 := HO7n_
  clear HO7n_
  have HTn_ := Aside0.mk (HT.out.move (fun k_ hk_ hl_ => E33.block k_ hl_ (fun e_ => by (try dsimp only at e_ hk_); omega)))
  clear HT
  have HT := HTn_
  clear HTn_
  refine q_nil ?_
  refine x_seq ?_
  refine s_seq ?_
  refine s_region ?_
  refine q_val (v := .int .i64 0) (wn rfl) rfl (r_assign rfl) ?_
  refine q_nil ?_
  refine x_seq ?_
  refine s_seq ?_
  refine s_seq ?_
  refine s_region ?_
  refine q_val (v := .pointer (some ⟨g6, 0, none⟩)) (wn rfl) rfl (r_field fld_30_0 rfl rfl) ?_
  refine q_val (v := .int .i64 kd) (wn rfl) rfl (r_load1 sz_3 rfl (S32.cell 1 rfl rfl)) ?_
  refine q_nil ?_
  refine x_seq ?_
  refine s_block ?_
  refine s_seq ?_
  refine s_region ?_
  refine q_val (v := .bool false) (wn rfl) rfl (r_eql rfl rfl (beq_f (by omega))) ?_
  refine q_val (v := .bool false) (wn rfl) rfl (r_assign rfl) ?_
  refine q_nil ?_
  refine x_seq ?_
  refine s_false rfl ?_
  refine s_seq ?_
  refine s_region ?_
  refine q_val (v := .bool true) (wn rfl) rfl (r_eql rfl rfl (beq_t (by omega))) ?_
  refine q_val (v := .bool true) (wn rfl) rfl (r_assign rfl) ?_
  refine q_nil ?_
  refine x_seq ?_
  refine s_true rfl ?_
  refine s_region ?_
  refine q_val (v := .pointer (some ⟨g, 0, none⟩)) (wn rfl) rfl (r_move rfl) ?_
  refine q_val (v := .pointer (some ⟨g6, 7, none⟩)) (wn rfl) rfl (r_field fld_30_3 rfl rfl) ?_
  refine q_val (v := .slice B7 ((cut50 l7).length) d7) (wn rfl) rfl (r_load1 sz_24 rfl (S32.cell 1 rfl rfl)) ?_
  refine q_of (wn rfl) ?_
  refine e_call (args := [.pointer (some ⟨g, 0, none⟩), .int .i64 1, .slice B7 ((cut50 l7).length) d7]) Try.func15 (by kernel_rfl) rfl rfl ?_
  refine (LimitIoctls_bad HT.out 1 (by omega) HQ.out s HS.out 600 B7 (cut50 l7) d7 (R_C HO7.out).2 (R_C HO7.out).1 r1 r2 r3 HSub.out he).mono ?_
  rintro e w34 ⟨rfl, hb⟩
  refine ⟨_, rfl, ?_⟩
  have B35 := hb
  have S36 := S32.call B35
  have HW1n_ := Aside0.mk (R_below HW1.out B35)
  clear HW1
  have HW1 := HW1n_
  clear HW1n_
  have HO7n_ := Aside0.mk (R_below HO7.out B35)
  clear HO7
  have HO7 := HO7n_
  clear HO7n_
  have HTn_ := Aside0.mk (HT.out.below B35)
  clear HT
  have HT := HTn_
  clear HTn_
  refine q_val (v := .int .i64 r3) (wn rfl) rfl (r_assign rfl) ?_
  refine q_nil ?_
  refine x_blk ?_
  refine x_seq ?_
  refine s_seq ?_
  refine s_region ?_
  refine q_val (v := .pointer (some ⟨g, 0, none⟩)) (wn rfl) rfl (r_move rfl) ?_
  refine q_of (wn rfl) ?_
  refine e_call (args := [.pointer (some ⟨g, 0, none⟩), .int .i64 1, .int .u32 0]) Try.func12 (by kernel_rfl) rfl rfl ?_
  refine (Get_ok HT.out 1 0 (by omega) (s := s) HS.out (subset_zero _) (by omega)).mono ?_
  rintro e w37 ⟨v, rfl, ho, hb⟩
  obtain ⟨Aw2, cw2, rfl⟩ := Kd.R_slice ho
  refine ⟨_, rfl, ?_⟩
  have B38 := hb
  have S39 := S36.call B38
  have HW1n_ := Aside0.mk (R_below HW1.out B38)
  clear HW1
  have HW1 := HW1n_
  clear HW1n_
  have HO7n_ := Aside0.mk (R_below HO7.out B38)
  clear HO7
  have HO7 := HO7n_
  clear HO7n_
  have HTn_ := Aside0.mk (HT.out.below B38)
  clear HT
  have HT := HTn_
  clear HTn_
  have HW2 := Aside0.mk ho
  clear ho
  refine q_val (v := .tuple #[.agg #[.int .i64 s.f0, .int .u32 s.f1, .bool s.f2.f0, .slice Aw2 s.f2.f1.length cw2, .int .i64 s.f3], .int .i64 0]) (wn rfl) rfl (r_move rfl) ?_
  refine q_val (v := .agg #[.int .i64 s.f0, .int .u32 s.f1, .bool s.f2.f0, .slice Aw2 s.f2.f1.length cw2, .int .i64 s.f3]) (wn rfl) rfl (r_extract rfl rfl) ?_
  refine q_val (v := .int .i64 0) (wn rfl) rfl (r_extract rfl rfl) ?_
  refine q_of (wn rfl) ?_
  refine e_alloc S39 zro_28 ?_
  intro g40 w41 hg40 S42 B43
  have zpHTg40 := blk_lt HT.out.row
  have zqHTg40q := tab_slot_lt HT.out HQ.out
  have HW1n_ := Aside0.mk (R_below HW1.out B43)
  clear HW1
  have HW1 := HW1n_
  clear HW1n_
  have HO7n_ := Aside0.mk (R_below HO7.out B43)
  clear HO7
  have HO7 := HO7n_
  clear HO7n_
  have HW2n_ := Aside0.mk (R_below HW2.out B43)
  clear HW2
  have HW2 := HW2n_
  clear HW2n_
  have HTn_ := Aside0.mk ((HT.out.apart (a := g40) (Nat.le_of_eq hg40)).below B43)
  clear HT
  have HT := HTn_
  clear HTn_
  refine q_of (wn rfl) ?_
  refine e_store (vs := [.int .i64 s.f0, .int .u32 s.f1, .bool s.f2.f0, .slice Aw2 s.f2.f1.length cw2, .int .i64 s.f3]) (cs' := [.int .i64 s.f0, .int .u32 s.f1, .bool s.f2.f0, .slice Aw2 s.f2.f1.length cw2, .int .i64 s.f3]) (σ' := [⟨g40, true, .cells #[.int .i64 s.f0, .int .u32 s.f1, .bool s.f2.f0, .slice Aw2 s.f2.f1.length cw2, .int .i64 s.f3] 28 (0, 0)⟩, ⟨g21, true, .cells #[.int .i64 s.f0, .int .u32 s.f1, .bool s.f2.f0, .slice Aw1 s.f2.f1.length cw1, .int .i64 s.f3] 28 (0, 0)⟩, ⟨g6, true, .cells #[.int .i64 kd, .int .i64 fd, .int .i64 s0, .int .u32 s1, .bool b0, .slice B5 ((cut50 l5).length) d5, .int .i64 s3, .slice B7 ((cut50 l7).length) d7] 30 (0, 0)⟩, ⟨g2, true, .cells #[.int .i64 s.f0, .int .u32 s.f1, .bool s.f2.f0, .slice A s.f2.f1.length c, .int .i64 s.f3] 28 (0, 0)⟩]) S42 rfl rfl rfl rfl sz_28 0 rfl (.inl rfl) rfl rfl rfl ?_
  intro w44 S45 E46
  have HW1n_ := Aside0.mk (R_ext HW1.out E46 (S42.blk 0 rfl) (by decide))
  clear HW1
  have HW1 := HW1n_
  clear HW1n_
  have HO7n_ := Aside0.mk (R_ext HO7.out E46 (S42.blk 0 rfl) (by decide))
  clear HO7
  have HO7 := HO7n_
  clear HO7n_
  have HW2n_ := Aside0.mk (R_ext HW2.out E46 (S42.blk 0 rfl) (by decide))
  clear HW2
  have HW2 := HW2n_
  clear HW2n_
  have HTn_ := Aside0.mk (HT.out.move (fun k_ hk_ hl_ => E46.block k_ hl_ (fun e_ => by (try dsimp only at e_ hk_); omega)))
  clear HT
  have HT := HTn_
  clear HTn_
  refine q_val (v := .int .i64 0) (wn rfl) rfl (r_assign rfl) ?_
  refine q_nil ?_
  refine x_seq ?_
  refine s_seq ?_
  refine s_region ?_
  refine q_val (v := .int .i64 0) (wn rfl) rfl (r_move rfl) ?_
  refine q_val (v := .bool true) (wn rfl) rfl (r_eql rfl rfl (beq_t (by omega))) ?_
  refine q_val (v := .bool true) (wn rfl) rfl (r_move rfl) ?_
  refine q_val (v := .agg #[.int .i64 s.f0, .int .u32 s.f1, .bool s.f2.f0, .slice Aw2 s.f2.f1.length cw2, .int .i64 s.f3]) (wan rfl rfl rfl rfl) rfl (r_loadN (vs := [.int .i64 s.f0, .int .u32 s.f1, .bool s.f2.f0, .slice Aw2 s.f2.f1.length cw2, .int .i64 s.f3]) sz_28 rfl (S45.blk 0 rfl) rfl rfl) ?_
  refine q_val (v := .agg #[.int .i64 s.f0, .int .u32 s.f1, .bool s.f2.f0, .slice Aw1 s.f2.f1.length cw1, .int .i64 s.f3]) (wan rfl rfl rfl rfl) rfl (r_loadN (vs := [.int .i64 s.f0, .int .u32 s.f1, .bool s.f2.f0, .slice Aw1 s.f2.f1.length cw1, .int .i64 s.f3]) sz_28 rfl (S45.blk 1 rfl) rfl rfl) ?_
  refine q_of (wan rfl rfl rfl rfl) ?_
  refine e_call (args := [.agg #[.int .i64 s.f0, .int .u32 s.f1, .bool s.f2.f0, .slice Aw2 s.f2.f1.length cw2, .int .i64 s.f3], .agg #[.int .i64 s.f0, .int .u32 s.f1, .bool s.f2.f0, .slice Aw1 s.f2.f1.length cw1, .int .i64 s.f3]]) Try.func17 (by kernel_rfl) rfl rfl ?_
  refine (purlieuref13_Within.calls 400 s.f0 s.f1 s.f2.f0 Aw2 cw2 s.f2.f1 s.f3 s.f0 s.f1 s.f2.f0 Aw1 cw1 s.f2.f1 s.f3 true _ (R_C HW2.out).2 (R_C HW2.out).1 (R_C HW1.out).2 (R_C HW1.out).1 HWi.out).mono ?_
  rintro e w47 ⟨rfl, hb⟩
  refine ⟨_, rfl, ?_⟩
  have B48 := hb
  have S49 := S45.call B48
  have HW1n_ := Aside0.mk (R_below HW1.out B48)
  clear HW1
  have HW1 := HW1n_
  clear HW1n_
  have HO7n_ := Aside0.mk (R_below HO7.out B48)
  clear HO7
  have HO7 := HO7n_
  clear HO7n_
  have HW2n_ := Aside0.mk (R_below HW2.out B48)
  clear HW2
  have HW2 := HW2n_
  clear HW2n_
  have HTn_ := Aside0.mk (HT.out.below B48)
  clear HT
  have HT := HTn_
  clear HTn_
  refine q_val (v := .bool true) (wn rfl) rfl (r_pick_t rfl rfl) ?_
  refine q_val (v := .bool true) (wn rfl) rfl (r_move rfl) ?_
  refine q_val (v := .int .i64 r3) (wan rfl rfl rfl rfl) rfl (r_move rfl) ?_
  refine q_val (v := .bool false) (wan rfl rfl rfl rfl) rfl (r_eql rfl rfl (beq_f (he))) ?_
  refine q_val (v := .bool false) (wan rfl rfl rfl rfl) rfl (r_move rfl) ?_
  refine q_val (v := .agg #[.int .i64 s.f0, .int .u32 s.f1, .bool s.f2.f0, .slice Aw2 s.f2.f1.length cw2, .int .i64 s.f3]) (wan rfl rfl rfl rfl) rfl (r_loadN (vs := [.int .i64 s.f0, .int .u32 s.f1, .bool s.f2.f0, .slice Aw2 s.f2.f1.length cw2, .int .i64 s.f3]) sz_28 rfl (S49.blk 0 rfl) rfl rfl) ?_
  refine q_val (v := .agg #[.int .i64 s.f0, .int .u32 s.f1, .bool s.f2.f0, .slice Aw1 s.f2.f1.length cw1, .int .i64 s.f3]) (wan rfl rfl rfl rfl) rfl (r_loadN (vs := [.int .i64 s.f0, .int .u32 s.f1, .bool s.f2.f0, .slice Aw1 s.f2.f1.length cw1, .int .i64 s.f3]) sz_28 rfl (S49.blk 1 rfl) rfl rfl) ?_
  refine q_of (wan rfl rfl rfl rfl) ?_
  refine e_call (args := [.agg #[.int .i64 s.f0, .int .u32 s.f1, .bool s.f2.f0, .slice Aw2 s.f2.f1.length cw2, .int .i64 s.f3], .agg #[.int .i64 s.f0, .int .u32 s.f1, .bool s.f2.f0, .slice Aw1 s.f2.f1.length cw1, .int .i64 s.f3]]) Try.func18 (by kernel_rfl) rfl rfl ?_
  obtain ⟨ko, hko⟩ := one_same s (by omega)
  refine (purlieuref13_One.calls ko s.f0 s.f1 s.f2.f0 Aw2 cw2 s.f2.f1 s.f3 s.f0 s.f1 s.f2.f0 Aw1 cw1 s.f2.f1 s.f3 true _ (R_C HW2.out).2 (R_C HW2.out).1 (R_C HW1.out).2 (R_C HW1.out).1 hko).mono ?_
  rintro e w50 ⟨rfl, hb⟩
  refine ⟨_, rfl, ?_⟩
  have B51 := hb
  have S52 := S49.call B51
  have HW1n_ := Aside0.mk (R_below HW1.out B51)
  clear HW1
  have HW1 := HW1n_
  clear HW1n_
  have HO7n_ := Aside0.mk (R_below HO7.out B51)
  clear HO7
  have HO7 := HO7n_
  clear HO7n_
  have HW2n_ := Aside0.mk (R_below HW2.out B51)
  clear HW2
  have HW2 := HW2n_
  clear HW2n_
  have HTn_ := Aside0.mk (HT.out.below B51)
  clear HT
  have HT := HTn_
  clear HTn_
  refine q_val (v := .bool true) (wan rfl rfl rfl rfl) rfl (r_pick_f rfl rfl) ?_
  refine q_val (v := .bool true) (wn rfl) rfl (r_pick_t rfl rfl) ?_
  refine q_val (v := .bool true) (wn rfl) rfl (r_move rfl) ?_
  refine q_of (wan rfl rfl rfl rfl) ?_
  refine e_call (args := []) Try.func10 (by kernel_rfl) rfl rfl ?_
  refine (lives_calls _).mono ?_
  rintro e w53 ⟨rfl, hb⟩
  refine ⟨_, rfl, ?_⟩
  have B54 := hb
  have S55 := S52.call B54
  have HW1n_ := Aside0.mk (R_below HW1.out B54)
  clear HW1
  have HW1 := HW1n_
  clear HW1n_
  have HO7n_ := Aside0.mk (R_below HO7.out B54)
  clear HO7
  have HO7 := HO7n_
  clear HO7n_
  have HW2n_ := Aside0.mk (R_below HW2.out B54)
  clear HW2
  have HW2 := HW2n_
  clear HW2n_
  have HTn_ := Aside0.mk (HT.out.below B54)
  clear HT
  have HT := HTn_
  clear HTn_
  refine q_val (v := .bool true) (wn rfl) rfl (r_pick_t rfl rfl) ?_
  refine q_val (v := .bool true) (wn rfl) rfl (r_assign rfl) ?_
  refine q_nil ?_
  refine x_seq ?_
  refine s_ret ?_
  refine t_ret1 (v := .bool true) rfl rfl ?_
  exact ⟨rfl, S55.ext.below⟩

set_option maxHeartbeats 8000000 in
set_option maxRecDepth 100000 in
theorem SlotsLess_fc_ok (s : Slot) (A : Option Addr) (c : Nat) (kd fd s0 s1 : Int) (b0 : Bool) (A5 : Option Addr) (c5 : Nat) (l5 : List Int) (s3 : Int) (A7 : Option Addr) (c7 : Nat) (l7 : List Int) (w : World) (hr : Kd.C (Kd.int .i64) w A s.f2.f1.length s.f2.f1) (hc : s.f2.f1.length ≤ c) (hr5 : Kd.C (Kd.int .i64) w A5 l5.length l5) (hc5 : l5.length ≤ c5) (hr7 : Kd.C (Kd.int .i64) w A7 l7.length l7) (hc7 : l7.length ≤ c7) (hl : s.f2.f1.length ≤ 50) (hcan : canS s = true) (hk3 : kd ≠ 3) (hk4 : kd ≠ 4) (r1 : Int) (hsub : white_Mask.f s.f3 s3 = some (r1, 0)) (n : Slot) (hn : n = ⟨s.f0, s.f1, s.f2, r1⟩) (hwi : purlieuref13_Within.f 400 n.f0 n.f1 n.f2.f0 n.f2.f1 n.f3 s.f0 s.f1 s.f2.f0 s.f2.f1 s.f3 = some true) (hnl : n.f2.f1.length ≤ 200) :
    Calls Try.prog 3 #[.agg #[.int .i64 s.f0, .int .u32 s.f1, .bool s.f2.f0, .slice A s.f2.f1.length c, .int .i64 s.f3], .agg #[.int .i64 kd, .int .i64 fd, .int .i64 s0, .int .u32 s1, .bool b0, .slice A5 l5.length c5, .int .i64 s3, .slice A7 l7.length c7]] w fun e w' => e = .returned (.bool true) ∧ Below w.heap.size w w' := by
  have HR := Aside0.mk hr
  have HC := Aside0.mk hc
  have HR5 := Aside0.mk hr5
  have HR7 := Aside0.mk hr7
  have HC5 := Aside0.mk hc5
  have HC7 := Aside0.mk hc7
  have HCan := Aside0.mk (show purlieuref13_Can.f 200 s.f0 s.f1 s.f2.f0 s.f2.f1 s.f3 = some true by rw [rcanS s hl, hcan])
  have HCan2 := Aside0.mk (show slots_can.f 200 s.f0 s.f1 s.f2.f0 s.f2.f1 s.f3 = some true by rw [wcanS s hl, hcan])
  have HSub := Aside0.mk hsub
  have HWi := Aside0.mk hwi
  clear hcan hsub hwi hr5 hr7
  refine s_enter (n := 81) (L := [(0, .agg #[.int .i64 s.f0, .int .u32 s.f1, .bool s.f2.f0, .slice A s.f2.f1.length c, .int .i64 s.f3]), (1, .agg #[.int .i64 kd, .int .i64 fd, .int .i64 s0, .int .u32 s1, .bool b0, .slice A5 l5.length c5, .int .i64 s3, .slice A7 l7.length c7])]) Try.func3 rfl rfl rfl rfl ?_
  have S1 := St.start w no
  refine s_seq ?_
  refine s_region ?_
  refine q_of (wn rfl) ?_
  refine e_box (cs := [.int .i64 s.f0, .int .u32 s.f1, .bool s.f2.f0, .slice A s.f2.f1.length c, .int .i64 s.f3]) S1 rfl rfl ?_
  intro g2 w3 hg2 S4 B5
  refine q_of (wn rfl) ?_
  refine e_box (cs := [.int .i64 kd, .int .i64 fd, .int .i64 s0, .int .u32 s1, .bool b0, .slice A5 l5.length c5, .int .i64 s3, .slice A7 l7.length c7]) S4 rfl rfl ?_
  intro g6 w7 hg6 S8 B9
  refine q_val (v := .bool false) (wn rfl) rfl (r_assign rfl) ?_
  refine q_nil ?_
  refine x_seq ?_
  refine s_seq ?_
  refine s_region ?_
  refine q_of (wn rfl) ?_
  refine e_call (args := [.int .i64 3]) Try.func8 (by kernel_rfl) rfl rfl ?_
  have zng6 := heap_lt (S8.blk 0 rfl)
  have zng2 := heap_lt (S8.blk 1 rfl)
  have zw := S8.ext.size
  refine (New_ok 3 (by omega) (by omega) _).mono ?_
  rintro e w10 ⟨g, p, rfl, hT, hb⟩
  refine ⟨_, rfl, ?_⟩
  have B11 := hb
  have S12 := S8.call B11
  have HT := Aside0.mk (tab_base hT)
  have hpb := hT.low.2.1
  clear hT
  refine q_val (v := .pointer (some ⟨g, 0, none⟩)) (wn rfl) rfl (r_assign rfl) ?_
  refine q_nil ?_
  refine x_seq ?_
  refine s_seq ?_
  refine s_seq ?_
  refine s_region ?_
  refine q_val (v := .pointer (some ⟨g, 0, none⟩)) (wn rfl) rfl (r_move rfl) ?_
  refine q_val (v := .bool false) (wn rfl) rfl (r_peql ptr_31 rfl rfl rfl) ?_
  refine q_val (v := .bool false) (wn rfl) rfl (r_move rfl) ?_
  refine q_val (v := .pointer (some ⟨g2, 2, none⟩)) (wan rfl rfl rfl rfl) rfl (r_field fld_28_2 rfl rfl) ?_
  refine q_val (v := .pointer (some ⟨g2, 3, none⟩)) (wan rfl rfl rfl rfl) rfl (r_field fld_26_1 rfl rfl) ?_
  refine q_val (v := .slice A s.f2.f1.length c) (wan rfl rfl rfl rfl) rfl (r_load1 sz_24 rfl (S12.cell 1 rfl rfl)) ?_
  refine q_val (v := .int .i64 ((s.f2.f1.length : Nat) : Int)) (wan rfl rfl rfl rfl) rfl (r_len_slice elm_24 rfl) ?_
  refine q_val (v := .bool false) (wan rfl rfl rfl rfl) rfl (r_gtr rfl rfl (decide_eq_false (by omega))) ?_
  refine q_val (v := .bool false) (wn rfl) rfl (r_pick_f rfl rfl) ?_
  refine q_val (v := .bool false) (wn rfl) rfl (r_move rfl) ?_
  refine q_val (v := .agg #[.int .i64 s.f0, .int .u32 s.f1, .bool s.f2.f0, .slice A s.f2.f1.length c, .int .i64 s.f3]) (wan rfl rfl rfl rfl) rfl (r_loadN (vs := [.int .i64 s.f0, .int .u32 s.f1, .bool s.f2.f0, .slice A s.f2.f1.length c, .int .i64 s.f3]) sz_28 rfl (S12.blk 1 rfl) rfl rfl) ?_
  refine q_of (wan rfl rfl rfl rfl) ?_
  refine e_call (args := [.agg #[.int .i64 s.f0, .int .u32 s.f1, .bool s.f2.f0, .slice A s.f2.f1.length c, .int .i64 s.f3]]) Try.func9 (by kernel_rfl) rfl rfl ?_
  refine (purlieuref13_Can.calls 200 _ _ _ _ _ _ _ true _ (Kd.C_below HR.out S12.ext.below) HC.out HCan.out).mono ?_
  rintro e w13 ⟨rfl, hb⟩
  refine ⟨_, rfl, ?_⟩
  have B14 := hb
  have S15 := S12.call B14
  have HTn_ := Aside0.mk (HT.out.below B14)
  clear HT
  have HT := HTn_
  clear HTn_
  refine q_val (v := .bool false) (wan rfl rfl rfl rfl) rfl (r_not rfl rfl) ?_
  refine q_val (v := .bool false) (wn rfl) rfl (r_pick_f rfl rfl) ?_
  refine q_nil ?_
  refine x_seq ?_
  refine s_false rfl ?_
  refine s_skip ?_
  refine x_seq ?_
  refine s_seq ?_
  refine s_region ?_
  refine q_val (v := .pointer (some ⟨g, 0, none⟩)) (wn rfl) rfl (r_move rfl) ?_
  refine q_val (v := .agg #[.int .i64 s.f0, .int .u32 s.f1, .bool s.f2.f0, .slice A s.f2.f1.length c, .int .i64 s.f3]) (wn rfl) rfl (r_loadN (vs := [.int .i64 s.f0, .int .u32 s.f1, .bool s.f2.f0, .slice A s.f2.f1.length c, .int .i64 s.f3]) sz_28 rfl (S15.blk 1 rfl) rfl rfl) ?_
  refine q_of (wn rfl) ?_
  refine e_call (args := [.pointer (some ⟨g, 0, none⟩), .int .i64 1, .agg #[.int .i64 s.f0, .int .u32 s.f1, .bool s.f2.f0, .slice A s.f2.f1.length c, .int .i64 s.f3]]) Try.func11 (by kernel_rfl) rfl rfl ?_
  have hblk_ := HT.out.row
  refine (Put_at HT.out (tab_okN HT.out) 1 (by omega) (by simp) (by decide) s A c (Kd.C_below HR.out S15.ext.below) HC.out 200 HCan2.out (by omega) 1 rfl).mono ?_
  rintro e w16 ⟨rfl, ⟨q, hT3⟩, hE⟩
  refine ⟨_, rfl, ?_⟩
  have S17 := S15.callX hE (fun x_ hx_ e_ => by simp only [List.mem_cons, List.not_mem_nil, or_false] at hx_; rcases hx_ with rfl | rfl; all_goals ((try dsimp only at e_); omega)) (fun k_ h1_ h2_ => by (try dsimp only at h2_); omega)
  clear HT hblk_
  have HT := Aside0.mk hT3
  have hq_ := (hT3.som 1 q rfl).1
  have HQ := Aside0.mk (show (List.set (List.replicate (Int.toNat 3) (none : Option Nat)) (Int.toNat 1) (some q))[1]? = some (some q) from rfl)
  clear hE hT3
  have HS := Aside0.mk (show (List.set (List.replicate (Int.toNat 3) (none : Option Slot)) (Int.toNat 1) (some s))[1]? = some (some s) from rfl)
  refine q_nil ?_
  refine x_seq ?_
  refine s_seq ?_
  refine s_region ?_
  refine q_val (v := .pointer (some ⟨g, 0, none⟩)) (wn rfl) rfl (r_move rfl) ?_
  refine q_of (wn rfl) ?_
  refine e_call (args := [.pointer (some ⟨g, 0, none⟩), .int .i64 1, .int .u32 0]) Try.func12 (by kernel_rfl) rfl rfl ?_
  refine (Get_ok HT.out 1 0 (by omega) (s := s) HS.out (subset_zero _) (by omega)).mono ?_
  rintro e w18 ⟨v, rfl, ho, hb⟩
  obtain ⟨Aw1, cw1, rfl⟩ := Kd.R_slice ho
  refine ⟨_, rfl, ?_⟩
  have B19 := hb
  have S20 := S17.call B19
  have HTn_ := Aside0.mk (HT.out.below B19)
  clear HT
  have HT := HTn_
  clear HTn_
  have HW1 := Aside0.mk ho
  clear ho
  refine q_val (v := .tuple #[.agg #[.int .i64 s.f0, .int .u32 s.f1, .bool s.f2.f0, .slice Aw1 s.f2.f1.length cw1, .int .i64 s.f3], .int .i64 0]) (wn rfl) rfl (r_move rfl) ?_
  refine q_val (v := .agg #[.int .i64 s.f0, .int .u32 s.f1, .bool s.f2.f0, .slice Aw1 s.f2.f1.length cw1, .int .i64 s.f3]) (wn rfl) rfl (r_extract rfl rfl) ?_
  refine q_val (v := .int .i64 0) (wn rfl) rfl (r_extract rfl rfl) ?_
  refine q_of (wn rfl) ?_
  refine e_alloc S20 zro_28 ?_
  intro g21 w22 hg21 S23 B24
  have zpHTg21 := blk_lt HT.out.row
  have zqHTg21q := tab_slot_lt HT.out HQ.out
  have HW1n_ := Aside0.mk (R_below HW1.out B24)
  clear HW1
  have HW1 := HW1n_
  clear HW1n_
  have HTn_ := Aside0.mk ((HT.out.apart (a := g21) (Nat.le_of_eq hg21)).below B24)
  clear HT
  have HT := HTn_
  clear HTn_
  refine q_of (wn rfl) ?_
  refine e_store (vs := [.int .i64 s.f0, .int .u32 s.f1, .bool s.f2.f0, .slice Aw1 s.f2.f1.length cw1, .int .i64 s.f3]) (cs' := [.int .i64 s.f0, .int .u32 s.f1, .bool s.f2.f0, .slice Aw1 s.f2.f1.length cw1, .int .i64 s.f3]) (σ' := [⟨g21, true, .cells #[.int .i64 s.f0, .int .u32 s.f1, .bool s.f2.f0, .slice Aw1 s.f2.f1.length cw1, .int .i64 s.f3] 28 (0, 0)⟩, ⟨g6, true, .cells #[.int .i64 kd, .int .i64 fd, .int .i64 s0, .int .u32 s1, .bool b0, .slice A5 l5.length c5, .int .i64 s3, .slice A7 l7.length c7] 30 (0, 0)⟩, ⟨g2, true, .cells #[.int .i64 s.f0, .int .u32 s.f1, .bool s.f2.f0, .slice A s.f2.f1.length c, .int .i64 s.f3] 28 (0, 0)⟩]) S23 rfl rfl rfl rfl sz_28 0 rfl (.inl rfl) rfl rfl rfl ?_
  intro w25 S26 E27
  have HW1n_ := Aside0.mk (R_ext HW1.out E27 (S23.blk 0 rfl) (by decide))
  clear HW1
  have HW1 := HW1n_
  clear HW1n_
  have HTn_ := Aside0.mk (HT.out.move (fun k_ hk_ hl_ => E27.block k_ hl_ (fun e_ => by (try dsimp only at e_ hk_); omega)))
  clear HT
  have HT := HTn_
  clear HTn_
  refine q_val (v := .int .i64 0) (wn rfl) rfl (r_assign rfl) ?_
  refine q_nil ?_
  refine x_seq ?_
  refine s_seq ?_
  refine s_region ?_
  refine q_val (v := .agg #[.int .i64 kd, .int .i64 fd, .int .i64 s0, .int .u32 s1, .bool b0, .slice A5 l5.length c5, .int .i64 s3, .slice A7 l7.length c7]) (wn rfl) rfl (r_loadN (vs := [.int .i64 kd, .int .i64 fd, .int .i64 s0, .int .u32 s1, .bool b0, .slice A5 l5.length c5, .int .i64 s3, .slice A7 l7.length c7]) sz_30 rfl (S26.blk 1 rfl) rfl rfl) ?_
  refine q_of (wn rfl) ?_
  refine e_call (args := [.agg #[.int .i64 kd, .int .i64 fd, .int .i64 s0, .int .u32 s1, .bool b0, .slice A5 l5.length c5, .int .i64 s3, .slice A7 l7.length c7]]) Try.func13 (by kernel_rfl) rfl rfl ?_
  refine (own_calls kd fd s0 s1 b0 A5 c5 l5 s3 A7 c7 l7 _ (Kd.C_below HR5.out S26.ext.below) HC5.out (Kd.C_below HR7.out S26.ext.below) HC7.out).mono ?_
  rintro e w28 ⟨v5, v7, rfl, ho5, ho7, hb⟩
  obtain ⟨B5, d5, rfl⟩ := Kd.R_slice ho5
  obtain ⟨B7, d7, rfl⟩ := Kd.R_slice ho7
  refine ⟨_, rfl, ?_⟩
  have B29 := hb
  have S30 := S26.call B29
  have HW1n_ := Aside0.mk (R_below HW1.out B29)
  clear HW1
  have HW1 := HW1n_
  clear HW1n_
  have HTn_ := Aside0.mk (HT.out.below B29)
  clear HT
  have HT := HTn_
  clear HTn_
  have HO7 := Aside0.mk ho7
  clear ho5 ho7
  refine q_of (wn rfl) ?_
  refine e_store (vs := [.int .i64 kd, .int .i64 fd, .int .i64 s0, .int .u32 s1, .bool b0, .slice B5 ((cut50 l5).length) d5, .int .i64 s3, .slice B7 ((cut50 l7).length) d7]) (cs' := [.int .i64 kd, .int .i64 fd, .int .i64 s0, .int .u32 s1, .bool b0, .slice B5 ((cut50 l5).length) d5, .int .i64 s3, .slice B7 ((cut50 l7).length) d7]) (σ' := [⟨g21, true, .cells #[.int .i64 s.f0, .int .u32 s.f1, .bool s.f2.f0, .slice Aw1 s.f2.f1.length cw1, .int .i64 s.f3] 28 (0, 0)⟩, ⟨g6, true, .cells #[.int .i64 kd, .int .i64 fd, .int .i64 s0, .int .u32 s1, .bool b0, .slice B5 ((cut50 l5).length) d5, .int .i64 s3, .slice B7 ((cut50 l7).length) d7] 30 (0, 0)⟩, ⟨g2, true, .cells #[.int .i64 s.f0, .int .u32 s.f1, .bool s.f2.f0, .slice A s.f2.f1.length c, .int .i64 s.f3] 28 (0, 0)⟩]) S30 rfl rfl rfl rfl sz_30 1 rfl (.inl rfl) rfl rfl rfl ?_
  intro w31 S32 E33
  have HW1n_ := Aside0.mk (R_ext HW1.out E33 (S30.blk 1 rfl) (by decide))
  clear HW1
  have HW1 := HW1n_
  clear HW1n_
  have HO7n_ := Aside0.mk (R_ext HO7.out E33 (S30.blk 1 rfl) (by decide))
  clear HO7
  have HO7 := HO7n_
  clear HO7n_
  have HTn_ := Aside0.mk (HT.out.move (fun k_ hk_ hl_ => E33.block k_ hl_ (fun e_ => by (try dsimp only at e_ hk_); omega)))
  clear HT
  have HT := HTn_
  clear HTn_
  refine q_nil ?_
  refine x_seq ?_
  refine s_seq ?_
  refine s_region ?_
  refine q_val (v := .int .i64 0) (wn rfl) rfl (r_assign rfl) ?_
  refine q_nil ?_
  refine x_seq ?_
  refine s_seq ?_
  refine s_seq ?_
  refine s_region ?_
  refine q_val (v := .pointer (some ⟨g6, 0, none⟩)) (wn rfl) rfl (r_field fld_30_0 rfl rfl) ?_
  refine q_val (v := .int .i64 kd) (wn rfl) rfl (r_load1 sz_3 rfl (S32.cell 1 rfl rfl)) ?_
  refine q_nil ?_
  refine x_seq ?_
  refine s_block ?_
  refine s_seq ?_
  refine s_region ?_
  refine q_val (v := .bool false) (wn rfl) rfl (r_eql rfl rfl (beq_f (by omega))) ?_
  refine q_val (v := .bool false) (wn rfl) rfl (r_assign rfl) ?_
  refine q_nil ?_
  refine x_seq ?_
  refine s_false rfl ?_
  refine s_seq ?_
  refine s_region ?_
  refine q_val (v := .bool false) (wn rfl) rfl (r_eql rfl rfl (beq_f (by omega))) ?_
  refine q_val (v := .bool false) (wn rfl) rfl (r_assign rfl) ?_
  refine q_nil ?_
  refine x_seq ?_
  refine s_false rfl ?_
  refine s_region ?_
  refine q_val (v := .pointer (some ⟨g, 0, none⟩)) (wn rfl) rfl (r_move rfl) ?_
  refine q_val (v := .pointer (some ⟨g6, 2, none⟩)) (wn rfl) rfl (r_field fld_30_2 rfl rfl) ?_
  refine q_val (v := .pointer (some ⟨g6, 6, none⟩)) (wn rfl) rfl (r_field fld_28_3 rfl rfl) ?_
  refine q_val (v := .int .i64 s3) (wn rfl) rfl (r_load1 sz_3 rfl (S32.cell 1 rfl rfl)) ?_
  refine q_of (wn rfl) ?_
  refine e_call (args := [.pointer (some ⟨g, 0, none⟩), .int .i64 1, .int .i64 s3]) Try.func16 (by kernel_rfl) rfl rfl ?_
  obtain ⟨_, _, s_, _, A_, c_, hblk_, _⟩ := HT.out.som 1 q HQ.out
  refine (LimitFcntls_ok HT.out 1 (by omega) HQ.out s HS.out s3 r1 HSub.out).mono ?_
  rintro e w34 ⟨rfl, hT3, hE⟩
  refine ⟨_, rfl, ?_⟩
  have S35 := S32.callX hE (fun x_ hx_ e_ => by simp only [List.mem_cons, List.not_mem_nil, or_false] at hx_; rcases hx_ with rfl | rfl | rfl; all_goals ((try dsimp only at e_); omega)) (fun k_ h1_ h2_ => by (try dsimp only at h2_); omega)
  have HW1n_ := Aside0.mk (R_ext HW1.out hE hblk_ (by decide))
  clear HW1
  have HW1 := HW1n_
  clear HW1n_
  have HO7n_ := Aside0.mk (R_ext HO7.out hE hblk_ (by decide))
  clear HO7
  have HO7 := HO7n_
  clear HO7n_
  rw [← hn] at hT3
  clear HT hblk_
  have HT := Aside0.mk hT3
  clear HS
  have HS := Aside0.mk (show (List.set (List.set (List.replicate (Int.toNat 3) (none : Option Slot)) (Int.toNat 1) (some s)) (Int.toNat 1) (some n))[1]? = some (some n) from rfl)
  clear hE hT3
  refine q_val (v := .int .i64 0) (wn rfl) rfl (r_assign rfl) ?_
  refine q_nil ?_
  refine x_blk ?_
  refine x_seq ?_
  refine s_seq ?_
  refine s_region ?_
  refine q_val (v := .pointer (some ⟨g, 0, none⟩)) (wn rfl) rfl (r_move rfl) ?_
  refine q_of (wn rfl) ?_
  refine e_call (args := [.pointer (some ⟨g, 0, none⟩), .int .i64 1, .int .u32 0]) Try.func12 (by kernel_rfl) rfl rfl ?_
  refine (Get_ok HT.out 1 0 (by omega) (s := n) HS.out (subset_zero _) (by omega)).mono ?_
  rintro e w36 ⟨v, rfl, ho, hb⟩
  obtain ⟨Aw2, cw2, rfl⟩ := Kd.R_slice ho
  refine ⟨_, rfl, ?_⟩
  have B37 := hb
  have S38 := S35.call B37
  have HW1n_ := Aside0.mk (R_below HW1.out B37)
  clear HW1
  have HW1 := HW1n_
  clear HW1n_
  have HO7n_ := Aside0.mk (R_below HO7.out B37)
  clear HO7
  have HO7 := HO7n_
  clear HO7n_
  have HTn_ := Aside0.mk (HT.out.below B37)
  clear HT
  have HT := HTn_
  clear HTn_
  have HW2 := Aside0.mk ho
  clear ho
  refine q_val (v := .tuple #[.agg #[.int .i64 n.f0, .int .u32 n.f1, .bool n.f2.f0, .slice Aw2 n.f2.f1.length cw2, .int .i64 n.f3], .int .i64 0]) (wn rfl) rfl (r_move rfl) ?_
  refine q_val (v := .agg #[.int .i64 n.f0, .int .u32 n.f1, .bool n.f2.f0, .slice Aw2 n.f2.f1.length cw2, .int .i64 n.f3]) (wn rfl) rfl (r_extract rfl rfl) ?_
  refine q_val (v := .int .i64 0) (wn rfl) rfl (r_extract rfl rfl) ?_
  refine q_of (wn rfl) ?_
  refine e_alloc S38 zro_28 ?_
  intro g39 w40 hg39 S41 B42
  have zpHTg39 := blk_lt HT.out.row
  have zqHTg39q := tab_slot_lt HT.out HQ.out
  have HW1n_ := Aside0.mk (R_below HW1.out B42)
  clear HW1
  have HW1 := HW1n_
  clear HW1n_
  have HO7n_ := Aside0.mk (R_below HO7.out B42)
  clear HO7
  have HO7 := HO7n_
  clear HO7n_
  have HW2n_ := Aside0.mk (R_below HW2.out B42)
  clear HW2
  have HW2 := HW2n_
  clear HW2n_
  have HTn_ := Aside0.mk ((HT.out.apart (a := g39) (Nat.le_of_eq hg39)).below B42)
  clear HT
  have HT := HTn_
  clear HTn_
  refine q_of (wn rfl) ?_
  refine e_store (vs := [.int .i64 n.f0, .int .u32 n.f1, .bool n.f2.f0, .slice Aw2 n.f2.f1.length cw2, .int .i64 n.f3]) (cs' := [.int .i64 n.f0, .int .u32 n.f1, .bool n.f2.f0, .slice Aw2 n.f2.f1.length cw2, .int .i64 n.f3]) (σ' := [⟨g39, true, .cells #[.int .i64 n.f0, .int .u32 n.f1, .bool n.f2.f0, .slice Aw2 n.f2.f1.length cw2, .int .i64 n.f3] 28 (0, 0)⟩, ⟨g21, true, .cells #[.int .i64 s.f0, .int .u32 s.f1, .bool s.f2.f0, .slice Aw1 s.f2.f1.length cw1, .int .i64 s.f3] 28 (0, 0)⟩, ⟨g6, true, .cells #[.int .i64 kd, .int .i64 fd, .int .i64 s0, .int .u32 s1, .bool b0, .slice B5 ((cut50 l5).length) d5, .int .i64 s3, .slice B7 ((cut50 l7).length) d7] 30 (0, 0)⟩, ⟨g2, true, .cells #[.int .i64 s.f0, .int .u32 s.f1, .bool s.f2.f0, .slice A s.f2.f1.length c, .int .i64 s.f3] 28 (0, 0)⟩]) S41 rfl rfl rfl rfl sz_28 0 rfl (.inl rfl) rfl rfl rfl ?_
  intro w43 S44 E45
  have HW1n_ := Aside0.mk (R_ext HW1.out E45 (S41.blk 0 rfl) (by decide))
  clear HW1
  have HW1 := HW1n_
  clear HW1n_
  have HO7n_ := Aside0.mk (R_ext HO7.out E45 (S41.blk 0 rfl) (by decide))
  clear HO7
  have HO7 := HO7n_
  clear HO7n_
  have HW2n_ := Aside0.mk (R_ext HW2.out E45 (S41.blk 0 rfl) (by decide))
  clear HW2
  have HW2 := HW2n_
  clear HW2n_
  have HTn_ := Aside0.mk (HT.out.move (fun k_ hk_ hl_ => E45.block k_ hl_ (fun e_ => by (try dsimp only at e_ hk_); omega)))
  clear HT
  have HT := HTn_
  clear HTn_
  refine q_val (v := .int .i64 0) (wn rfl) rfl (r_assign rfl) ?_
  refine q_nil ?_
  refine x_seq ?_
  refine s_seq ?_
  refine s_region ?_
  refine q_val (v := .int .i64 0) (wn rfl) rfl (r_move rfl) ?_
  refine q_val (v := .bool true) (wn rfl) rfl (r_eql rfl rfl (beq_t (by omega))) ?_
  refine q_val (v := .bool true) (wn rfl) rfl (r_move rfl) ?_
  refine q_val (v := .agg #[.int .i64 n.f0, .int .u32 n.f1, .bool n.f2.f0, .slice Aw2 n.f2.f1.length cw2, .int .i64 n.f3]) (wan rfl rfl rfl rfl) rfl (r_loadN (vs := [.int .i64 n.f0, .int .u32 n.f1, .bool n.f2.f0, .slice Aw2 n.f2.f1.length cw2, .int .i64 n.f3]) sz_28 rfl (S44.blk 0 rfl) rfl rfl) ?_
  refine q_val (v := .agg #[.int .i64 s.f0, .int .u32 s.f1, .bool s.f2.f0, .slice Aw1 s.f2.f1.length cw1, .int .i64 s.f3]) (wan rfl rfl rfl rfl) rfl (r_loadN (vs := [.int .i64 s.f0, .int .u32 s.f1, .bool s.f2.f0, .slice Aw1 s.f2.f1.length cw1, .int .i64 s.f3]) sz_28 rfl (S44.blk 1 rfl) rfl rfl) ?_
  refine q_of (wan rfl rfl rfl rfl) ?_
  refine e_call (args := [.agg #[.int .i64 n.f0, .int .u32 n.f1, .bool n.f2.f0, .slice Aw2 n.f2.f1.length cw2, .int .i64 n.f3], .agg #[.int .i64 s.f0, .int .u32 s.f1, .bool s.f2.f0, .slice Aw1 s.f2.f1.length cw1, .int .i64 s.f3]]) Try.func17 (by kernel_rfl) rfl rfl ?_
  refine (purlieuref13_Within.calls 400 n.f0 n.f1 n.f2.f0 Aw2 cw2 n.f2.f1 n.f3 s.f0 s.f1 s.f2.f0 Aw1 cw1 s.f2.f1 s.f3 true _ (R_C HW2.out).2 (R_C HW2.out).1 (R_C HW1.out).2 (R_C HW1.out).1 HWi.out).mono ?_
  rintro e w46 ⟨rfl, hb⟩
  refine ⟨_, rfl, ?_⟩
  have B47 := hb
  have S48 := S44.call B47
  have HW1n_ := Aside0.mk (R_below HW1.out B47)
  clear HW1
  have HW1 := HW1n_
  clear HW1n_
  have HO7n_ := Aside0.mk (R_below HO7.out B47)
  clear HO7
  have HO7 := HO7n_
  clear HO7n_
  have HW2n_ := Aside0.mk (R_below HW2.out B47)
  clear HW2
  have HW2 := HW2n_
  clear HW2n_
  have HTn_ := Aside0.mk (HT.out.below B47)
  clear HT
  have HT := HTn_
  clear HTn_
  refine q_val (v := .bool true) (wn rfl) rfl (r_pick_t rfl rfl) ?_
  refine q_val (v := .bool true) (wn rfl) rfl (r_move rfl) ?_
  refine q_val (v := .int .i64 0) (wan rfl rfl rfl rfl) rfl (r_move rfl) ?_
  refine q_val (v := .bool true) (wan rfl rfl rfl rfl) rfl (r_eql rfl rfl (beq_t (by omega))) ?_
  refine q_val (v := .bool true) (wan rfl rfl rfl rfl) rfl (r_move rfl) ?_
  refine q_skip (unwan rfl rfl rfl rfl rfl) rfl ?_
  refine q_skip (unwan rfl rfl rfl rfl rfl) rfl ?_
  refine q_skip (unwan rfl rfl rfl rfl rfl) rfl ?_
  refine q_val (v := .bool true) (wan rfl rfl rfl rfl) rfl (r_pick_t rfl rfl) ?_
  refine q_val (v := .bool true) (wn rfl) rfl (r_pick_t rfl rfl) ?_
  refine q_val (v := .bool true) (wn rfl) rfl (r_move rfl) ?_
  refine q_of (wan rfl rfl rfl rfl) ?_
  refine e_call (args := []) Try.func10 (by kernel_rfl) rfl rfl ?_
  refine (lives_calls _).mono ?_
  rintro e w49 ⟨rfl, hb⟩
  refine ⟨_, rfl, ?_⟩
  have B50 := hb
  have S51 := S48.call B50
  have HW1n_ := Aside0.mk (R_below HW1.out B50)
  clear HW1
  have HW1 := HW1n_
  clear HW1n_
  have HO7n_ := Aside0.mk (R_below HO7.out B50)
  clear HO7
  have HO7 := HO7n_
  clear HO7n_
  have HW2n_ := Aside0.mk (R_below HW2.out B50)
  clear HW2
  have HW2 := HW2n_
  clear HW2n_
  have HTn_ := Aside0.mk (HT.out.below B50)
  clear HT
  have HT := HTn_
  clear HTn_
  refine q_val (v := .bool true) (wn rfl) rfl (r_pick_t rfl rfl) ?_
  refine q_val (v := .bool true) (wn rfl) rfl (r_assign rfl) ?_
  refine q_nil ?_
  refine x_seq ?_
  refine s_ret ?_
  refine t_ret1 (v := .bool true) rfl rfl ?_
  exact ⟨rfl, S51.ext.below⟩

set_option maxHeartbeats 8000000 in
set_option maxRecDepth 100000 in
theorem SlotsLess_fc_bad (s : Slot) (A : Option Addr) (c : Nat) (kd fd s0 s1 : Int) (b0 : Bool) (A5 : Option Addr) (c5 : Nat) (l5 : List Int) (s3 : Int) (A7 : Option Addr) (c7 : Nat) (l7 : List Int) (w : World) (hr : Kd.C (Kd.int .i64) w A s.f2.f1.length s.f2.f1) (hc : s.f2.f1.length ≤ c) (hr5 : Kd.C (Kd.int .i64) w A5 l5.length l5) (hc5 : l5.length ≤ c5) (hr7 : Kd.C (Kd.int .i64) w A7 l7.length l7) (hc7 : l7.length ≤ c7) (hl : s.f2.f1.length ≤ 50) (hcan : canS s = true) (hk3 : kd ≠ 3) (hk4 : kd ≠ 4) (r1 r2 : Int) (hsub : white_Mask.f s.f3 s3 = some (r1, r2)) (he : r2 ≠ 0) (hwi : purlieuref13_Within.f 400 s.f0 s.f1 s.f2.f0 s.f2.f1 s.f3 s.f0 s.f1 s.f2.f0 s.f2.f1 s.f3 = some true) :
    Calls Try.prog 3 #[.agg #[.int .i64 s.f0, .int .u32 s.f1, .bool s.f2.f0, .slice A s.f2.f1.length c, .int .i64 s.f3], .agg #[.int .i64 kd, .int .i64 fd, .int .i64 s0, .int .u32 s1, .bool b0, .slice A5 l5.length c5, .int .i64 s3, .slice A7 l7.length c7]] w fun e w' => e = .returned (.bool true) ∧ Below w.heap.size w w' := by
  have HR := Aside0.mk hr
  have HC := Aside0.mk hc
  have HR5 := Aside0.mk hr5
  have HR7 := Aside0.mk hr7
  have HC5 := Aside0.mk hc5
  have HC7 := Aside0.mk hc7
  have HCan := Aside0.mk (show purlieuref13_Can.f 200 s.f0 s.f1 s.f2.f0 s.f2.f1 s.f3 = some true by rw [rcanS s hl, hcan])
  have HCan2 := Aside0.mk (show slots_can.f 200 s.f0 s.f1 s.f2.f0 s.f2.f1 s.f3 = some true by rw [wcanS s hl, hcan])
  have HSub := Aside0.mk hsub
  have HWi := Aside0.mk hwi
  clear hcan hsub hwi hr5 hr7
  refine s_enter (n := 81) (L := [(0, .agg #[.int .i64 s.f0, .int .u32 s.f1, .bool s.f2.f0, .slice A s.f2.f1.length c, .int .i64 s.f3]), (1, .agg #[.int .i64 kd, .int .i64 fd, .int .i64 s0, .int .u32 s1, .bool b0, .slice A5 l5.length c5, .int .i64 s3, .slice A7 l7.length c7])]) Try.func3 rfl rfl rfl rfl ?_
  have S1 := St.start w no
  refine s_seq ?_
  refine s_region ?_
  refine q_of (wn rfl) ?_
  refine e_box (cs := [.int .i64 s.f0, .int .u32 s.f1, .bool s.f2.f0, .slice A s.f2.f1.length c, .int .i64 s.f3]) S1 rfl rfl ?_
  intro g2 w3 hg2 S4 B5
  refine q_of (wn rfl) ?_
  refine e_box (cs := [.int .i64 kd, .int .i64 fd, .int .i64 s0, .int .u32 s1, .bool b0, .slice A5 l5.length c5, .int .i64 s3, .slice A7 l7.length c7]) S4 rfl rfl ?_
  intro g6 w7 hg6 S8 B9
  refine q_val (v := .bool false) (wn rfl) rfl (r_assign rfl) ?_
  refine q_nil ?_
  refine x_seq ?_
  refine s_seq ?_
  refine s_region ?_
  refine q_of (wn rfl) ?_
  refine e_call (args := [.int .i64 3]) Try.func8 (by kernel_rfl) rfl rfl ?_
  have zng6 := heap_lt (S8.blk 0 rfl)
  have zng2 := heap_lt (S8.blk 1 rfl)
  have zw := S8.ext.size
  refine (New_ok 3 (by omega) (by omega) _).mono ?_
  rintro e w10 ⟨g, p, rfl, hT, hb⟩
  refine ⟨_, rfl, ?_⟩
  have B11 := hb
  have S12 := S8.call B11
  have HT := Aside0.mk (tab_base hT)
  have hpb := hT.low.2.1
  clear hT
  refine q_val (v := .pointer (some ⟨g, 0, none⟩)) (wn rfl) rfl (r_assign rfl) ?_
  refine q_nil ?_
  refine x_seq ?_
  refine s_seq ?_
  refine s_seq ?_
  refine s_region ?_
  refine q_val (v := .pointer (some ⟨g, 0, none⟩)) (wn rfl) rfl (r_move rfl) ?_
  refine q_val (v := .bool false) (wn rfl) rfl (r_peql ptr_31 rfl rfl rfl) ?_
  refine q_val (v := .bool false) (wn rfl) rfl (r_move rfl) ?_
  refine q_val (v := .pointer (some ⟨g2, 2, none⟩)) (wan rfl rfl rfl rfl) rfl (r_field fld_28_2 rfl rfl) ?_
  refine q_val (v := .pointer (some ⟨g2, 3, none⟩)) (wan rfl rfl rfl rfl) rfl (r_field fld_26_1 rfl rfl) ?_
  refine q_val (v := .slice A s.f2.f1.length c) (wan rfl rfl rfl rfl) rfl (r_load1 sz_24 rfl (S12.cell 1 rfl rfl)) ?_
  refine q_val (v := .int .i64 ((s.f2.f1.length : Nat) : Int)) (wan rfl rfl rfl rfl) rfl (r_len_slice elm_24 rfl) ?_
  refine q_val (v := .bool false) (wan rfl rfl rfl rfl) rfl (r_gtr rfl rfl (decide_eq_false (by omega))) ?_
  refine q_val (v := .bool false) (wn rfl) rfl (r_pick_f rfl rfl) ?_
  refine q_val (v := .bool false) (wn rfl) rfl (r_move rfl) ?_
  refine q_val (v := .agg #[.int .i64 s.f0, .int .u32 s.f1, .bool s.f2.f0, .slice A s.f2.f1.length c, .int .i64 s.f3]) (wan rfl rfl rfl rfl) rfl (r_loadN (vs := [.int .i64 s.f0, .int .u32 s.f1, .bool s.f2.f0, .slice A s.f2.f1.length c, .int .i64 s.f3]) sz_28 rfl (S12.blk 1 rfl) rfl rfl) ?_
  refine q_of (wan rfl rfl rfl rfl) ?_
  refine e_call (args := [.agg #[.int .i64 s.f0, .int .u32 s.f1, .bool s.f2.f0, .slice A s.f2.f1.length c, .int .i64 s.f3]]) Try.func9 (by kernel_rfl) rfl rfl ?_
  refine (purlieuref13_Can.calls 200 _ _ _ _ _ _ _ true _ (Kd.C_below HR.out S12.ext.below) HC.out HCan.out).mono ?_
  rintro e w13 ⟨rfl, hb⟩
  refine ⟨_, rfl, ?_⟩
  have B14 := hb
  have S15 := S12.call B14
  have HTn_ := Aside0.mk (HT.out.below B14)
  clear HT
  have HT := HTn_
  clear HTn_
  refine q_val (v := .bool false) (wan rfl rfl rfl rfl) rfl (r_not rfl rfl) ?_
  refine q_val (v := .bool false) (wn rfl) rfl (r_pick_f rfl rfl) ?_
  refine q_nil ?_
  refine x_seq ?_
  refine s_false rfl ?_
  refine s_skip ?_
  refine x_seq ?_
  refine s_seq ?_
  refine s_region ?_
  refine q_val (v := .pointer (some ⟨g, 0, none⟩)) (wn rfl) rfl (r_move rfl) ?_
  refine q_val (v := .agg #[.int .i64 s.f0, .int .u32 s.f1, .bool s.f2.f0, .slice A s.f2.f1.length c, .int .i64 s.f3]) (wn rfl) rfl (r_loadN (vs := [.int .i64 s.f0, .int .u32 s.f1, .bool s.f2.f0, .slice A s.f2.f1.length c, .int .i64 s.f3]) sz_28 rfl (S15.blk 1 rfl) rfl rfl) ?_
  refine q_of (wn rfl) ?_
  refine e_call (args := [.pointer (some ⟨g, 0, none⟩), .int .i64 1, .agg #[.int .i64 s.f0, .int .u32 s.f1, .bool s.f2.f0, .slice A s.f2.f1.length c, .int .i64 s.f3]]) Try.func11 (by kernel_rfl) rfl rfl ?_
  have hblk_ := HT.out.row
  refine (Put_at HT.out (tab_okN HT.out) 1 (by omega) (by simp) (by decide) s A c (Kd.C_below HR.out S15.ext.below) HC.out 200 HCan2.out (by omega) 1 rfl).mono ?_
  rintro e w16 ⟨rfl, ⟨q, hT3⟩, hE⟩
  refine ⟨_, rfl, ?_⟩
  have S17 := S15.callX hE (fun x_ hx_ e_ => by simp only [List.mem_cons, List.not_mem_nil, or_false] at hx_; rcases hx_ with rfl | rfl; all_goals ((try dsimp only at e_); omega)) (fun k_ h1_ h2_ => by (try dsimp only at h2_); omega)
  clear HT hblk_
  have HT := Aside0.mk hT3
  have hq_ := (hT3.som 1 q rfl).1
  have HQ := Aside0.mk (show (List.set (List.replicate (Int.toNat 3) (none : Option Nat)) (Int.toNat 1) (some q))[1]? = some (some q) from rfl)
  clear hE hT3
  have HS := Aside0.mk (show (List.set (List.replicate (Int.toNat 3) (none : Option Slot)) (Int.toNat 1) (some s))[1]? = some (some s) from rfl)
  refine q_nil ?_
  refine x_seq ?_
  refine s_seq ?_
  refine s_region ?_
  refine q_val (v := .pointer (some ⟨g, 0, none⟩)) (wn rfl) rfl (r_move rfl) ?_
  refine q_of (wn rfl) ?_
  refine e_call (args := [.pointer (some ⟨g, 0, none⟩), .int .i64 1, .int .u32 0]) Try.func12 (by kernel_rfl) rfl rfl ?_
  refine (Get_ok HT.out 1 0 (by omega) (s := s) HS.out (subset_zero _) (by omega)).mono ?_
  rintro e w18 ⟨v, rfl, ho, hb⟩
  obtain ⟨Aw1, cw1, rfl⟩ := Kd.R_slice ho
  refine ⟨_, rfl, ?_⟩
  have B19 := hb
  have S20 := S17.call B19
  have HTn_ := Aside0.mk (HT.out.below B19)
  clear HT
  have HT := HTn_
  clear HTn_
  have HW1 := Aside0.mk ho
  clear ho
  refine q_val (v := .tuple #[.agg #[.int .i64 s.f0, .int .u32 s.f1, .bool s.f2.f0, .slice Aw1 s.f2.f1.length cw1, .int .i64 s.f3], .int .i64 0]) (wn rfl) rfl (r_move rfl) ?_
  refine q_val (v := .agg #[.int .i64 s.f0, .int .u32 s.f1, .bool s.f2.f0, .slice Aw1 s.f2.f1.length cw1, .int .i64 s.f3]) (wn rfl) rfl (r_extract rfl rfl) ?_
  refine q_val (v := .int .i64 0) (wn rfl) rfl (r_extract rfl rfl) ?_
  refine q_of (wn rfl) ?_
  refine e_alloc S20 zro_28 ?_
  intro g21 w22 hg21 S23 B24
  have zpHTg21 := blk_lt HT.out.row
  have zqHTg21q := tab_slot_lt HT.out HQ.out
  have HW1n_ := Aside0.mk (R_below HW1.out B24)
  clear HW1
  have HW1 := HW1n_
  clear HW1n_
  have HTn_ := Aside0.mk ((HT.out.apart (a := g21) (Nat.le_of_eq hg21)).below B24)
  clear HT
  have HT := HTn_
  clear HTn_
  refine q_of (wn rfl) ?_
  refine e_store (vs := [.int .i64 s.f0, .int .u32 s.f1, .bool s.f2.f0, .slice Aw1 s.f2.f1.length cw1, .int .i64 s.f3]) (cs' := [.int .i64 s.f0, .int .u32 s.f1, .bool s.f2.f0, .slice Aw1 s.f2.f1.length cw1, .int .i64 s.f3]) (σ' := [⟨g21, true, .cells #[.int .i64 s.f0, .int .u32 s.f1, .bool s.f2.f0, .slice Aw1 s.f2.f1.length cw1, .int .i64 s.f3] 28 (0, 0)⟩, ⟨g6, true, .cells #[.int .i64 kd, .int .i64 fd, .int .i64 s0, .int .u32 s1, .bool b0, .slice A5 l5.length c5, .int .i64 s3, .slice A7 l7.length c7] 30 (0, 0)⟩, ⟨g2, true, .cells #[.int .i64 s.f0, .int .u32 s.f1, .bool s.f2.f0, .slice A s.f2.f1.length c, .int .i64 s.f3] 28 (0, 0)⟩]) S23 rfl rfl rfl rfl sz_28 0 rfl (.inl rfl) rfl rfl rfl ?_
  intro w25 S26 E27
  have HW1n_ := Aside0.mk (R_ext HW1.out E27 (S23.blk 0 rfl) (by decide))
  clear HW1
  have HW1 := HW1n_
  clear HW1n_
  have HTn_ := Aside0.mk (HT.out.move (fun k_ hk_ hl_ => E27.block k_ hl_ (fun e_ => by (try dsimp only at e_ hk_); omega)))
  clear HT
  have HT := HTn_
  clear HTn_
  refine q_val (v := .int .i64 0) (wn rfl) rfl (r_assign rfl) ?_
  refine q_nil ?_
  refine x_seq ?_
  refine s_seq ?_
  refine s_region ?_
  refine q_val (v := .agg #[.int .i64 kd, .int .i64 fd, .int .i64 s0, .int .u32 s1, .bool b0, .slice A5 l5.length c5, .int .i64 s3, .slice A7 l7.length c7]) (wn rfl) rfl (r_loadN (vs := [.int .i64 kd, .int .i64 fd, .int .i64 s0, .int .u32 s1, .bool b0, .slice A5 l5.length c5, .int .i64 s3, .slice A7 l7.length c7]) sz_30 rfl (S26.blk 1 rfl) rfl rfl) ?_
  refine q_of (wn rfl) ?_
  refine e_call (args := [.agg #[.int .i64 kd, .int .i64 fd, .int .i64 s0, .int .u32 s1, .bool b0, .slice A5 l5.length c5, .int .i64 s3, .slice A7 l7.length c7]]) Try.func13 (by kernel_rfl) rfl rfl ?_
  refine (own_calls kd fd s0 s1 b0 A5 c5 l5 s3 A7 c7 l7 _ (Kd.C_below HR5.out S26.ext.below) HC5.out (Kd.C_below HR7.out S26.ext.below) HC7.out).mono ?_
  rintro e w28 ⟨v5, v7, rfl, ho5, ho7, hb⟩
  obtain ⟨B5, d5, rfl⟩ := Kd.R_slice ho5
  obtain ⟨B7, d7, rfl⟩ := Kd.R_slice ho7
  refine ⟨_, rfl, ?_⟩
  have B29 := hb
  have S30 := S26.call B29
  have HW1n_ := Aside0.mk (R_below HW1.out B29)
  clear HW1
  have HW1 := HW1n_
  clear HW1n_
  have HTn_ := Aside0.mk (HT.out.below B29)
  clear HT
  have HT := HTn_
  clear HTn_
  have HO7 := Aside0.mk ho7
  clear ho5 ho7
  refine q_of (wn rfl) ?_
  refine e_store (vs := [.int .i64 kd, .int .i64 fd, .int .i64 s0, .int .u32 s1, .bool b0, .slice B5 ((cut50 l5).length) d5, .int .i64 s3, .slice B7 ((cut50 l7).length) d7]) (cs' := [.int .i64 kd, .int .i64 fd, .int .i64 s0, .int .u32 s1, .bool b0, .slice B5 ((cut50 l5).length) d5, .int .i64 s3, .slice B7 ((cut50 l7).length) d7]) (σ' := [⟨g21, true, .cells #[.int .i64 s.f0, .int .u32 s.f1, .bool s.f2.f0, .slice Aw1 s.f2.f1.length cw1, .int .i64 s.f3] 28 (0, 0)⟩, ⟨g6, true, .cells #[.int .i64 kd, .int .i64 fd, .int .i64 s0, .int .u32 s1, .bool b0, .slice B5 ((cut50 l5).length) d5, .int .i64 s3, .slice B7 ((cut50 l7).length) d7] 30 (0, 0)⟩, ⟨g2, true, .cells #[.int .i64 s.f0, .int .u32 s.f1, .bool s.f2.f0, .slice A s.f2.f1.length c, .int .i64 s.f3] 28 (0, 0)⟩]) S30 rfl rfl rfl rfl sz_30 1 rfl (.inl rfl) rfl rfl rfl ?_
  intro w31 S32 E33
  have HW1n_ := Aside0.mk (R_ext HW1.out E33 (S30.blk 1 rfl) (by decide))
  clear HW1
  have HW1 := HW1n_
  clear HW1n_
  have HO7n_ := Aside0.mk (R_ext HO7.out E33 (S30.blk 1 rfl) (by decide))
  clear HO7
  have HO7 := HO7n_
  clear HO7n_
  have HTn_ := Aside0.mk (HT.out.move (fun k_ hk_ hl_ => E33.block k_ hl_ (fun e_ => by (try dsimp only at e_ hk_); omega)))
  clear HT
  have HT := HTn_
  clear HTn_
  refine q_nil ?_
  refine x_seq ?_
  refine s_seq ?_
  refine s_region ?_
  refine q_val (v := .int .i64 0) (wn rfl) rfl (r_assign rfl) ?_
  refine q_nil ?_
  refine x_seq ?_
  refine s_seq ?_
  refine s_seq ?_
  refine s_region ?_
  refine q_val (v := .pointer (some ⟨g6, 0, none⟩)) (wn rfl) rfl (r_field fld_30_0 rfl rfl) ?_
  refine q_val (v := .int .i64 kd) (wn rfl) rfl (r_load1 sz_3 rfl (S32.cell 1 rfl rfl)) ?_
  refine q_nil ?_
  refine x_seq ?_
  refine s_block ?_
  refine s_seq ?_
  refine s_region ?_
  refine q_val (v := .bool false) (wn rfl) rfl (r_eql rfl rfl (beq_f (by omega))) ?_
  refine q_val (v := .bool false) (wn rfl) rfl (r_assign rfl) ?_
  refine q_nil ?_
  refine x_seq ?_
  refine s_false rfl ?_
  refine s_seq ?_
  refine s_region ?_
  refine q_val (v := .bool false) (wn rfl) rfl (r_eql rfl rfl (beq_f (by omega))) ?_
  refine q_val (v := .bool false) (wn rfl) rfl (r_assign rfl) ?_
  refine q_nil ?_
  refine x_seq ?_
  refine s_false rfl ?_
  refine s_region ?_
  refine q_val (v := .pointer (some ⟨g, 0, none⟩)) (wn rfl) rfl (r_move rfl) ?_
  refine q_val (v := .pointer (some ⟨g6, 2, none⟩)) (wn rfl) rfl (r_field fld_30_2 rfl rfl) ?_
  refine q_val (v := .pointer (some ⟨g6, 6, none⟩)) (wn rfl) rfl (r_field fld_28_3 rfl rfl) ?_
  refine q_val (v := .int .i64 s3) (wn rfl) rfl (r_load1 sz_3 rfl (S32.cell 1 rfl rfl)) ?_
  refine q_of (wn rfl) ?_
  refine e_call (args := [.pointer (some ⟨g, 0, none⟩), .int .i64 1, .int .i64 s3]) Try.func16 (by kernel_rfl) rfl rfl ?_
  refine (LimitFcntls_bad HT.out 1 (by omega) HQ.out s HS.out s3 r1 r2 HSub.out he).mono ?_
  rintro e w34 ⟨rfl, hb⟩
  refine ⟨_, rfl, ?_⟩
  have B35 := hb
  have S36 := S32.call B35
  have HW1n_ := Aside0.mk (R_below HW1.out B35)
  clear HW1
  have HW1 := HW1n_
  clear HW1n_
  have HO7n_ := Aside0.mk (R_below HO7.out B35)
  clear HO7
  have HO7 := HO7n_
  clear HO7n_
  have HTn_ := Aside0.mk (HT.out.below B35)
  clear HT
  have HT := HTn_
  clear HTn_
  refine q_val (v := .int .i64 r2) (wn rfl) rfl (r_assign rfl) ?_
  refine q_nil ?_
  refine x_blk ?_
  refine x_seq ?_
  refine s_seq ?_
  refine s_region ?_
  refine q_val (v := .pointer (some ⟨g, 0, none⟩)) (wn rfl) rfl (r_move rfl) ?_
  refine q_of (wn rfl) ?_
  refine e_call (args := [.pointer (some ⟨g, 0, none⟩), .int .i64 1, .int .u32 0]) Try.func12 (by kernel_rfl) rfl rfl ?_
  refine (Get_ok HT.out 1 0 (by omega) (s := s) HS.out (subset_zero _) (by omega)).mono ?_
  rintro e w37 ⟨v, rfl, ho, hb⟩
  obtain ⟨Aw2, cw2, rfl⟩ := Kd.R_slice ho
  refine ⟨_, rfl, ?_⟩
  have B38 := hb
  have S39 := S36.call B38
  have HW1n_ := Aside0.mk (R_below HW1.out B38)
  clear HW1
  have HW1 := HW1n_
  clear HW1n_
  have HO7n_ := Aside0.mk (R_below HO7.out B38)
  clear HO7
  have HO7 := HO7n_
  clear HO7n_
  have HTn_ := Aside0.mk (HT.out.below B38)
  clear HT
  have HT := HTn_
  clear HTn_
  have HW2 := Aside0.mk ho
  clear ho
  refine q_val (v := .tuple #[.agg #[.int .i64 s.f0, .int .u32 s.f1, .bool s.f2.f0, .slice Aw2 s.f2.f1.length cw2, .int .i64 s.f3], .int .i64 0]) (wn rfl) rfl (r_move rfl) ?_
  refine q_val (v := .agg #[.int .i64 s.f0, .int .u32 s.f1, .bool s.f2.f0, .slice Aw2 s.f2.f1.length cw2, .int .i64 s.f3]) (wn rfl) rfl (r_extract rfl rfl) ?_
  refine q_val (v := .int .i64 0) (wn rfl) rfl (r_extract rfl rfl) ?_
  refine q_of (wn rfl) ?_
  refine e_alloc S39 zro_28 ?_
  intro g40 w41 hg40 S42 B43
  have zpHTg40 := blk_lt HT.out.row
  have zqHTg40q := tab_slot_lt HT.out HQ.out
  have HW1n_ := Aside0.mk (R_below HW1.out B43)
  clear HW1
  have HW1 := HW1n_
  clear HW1n_
  have HO7n_ := Aside0.mk (R_below HO7.out B43)
  clear HO7
  have HO7 := HO7n_
  clear HO7n_
  have HW2n_ := Aside0.mk (R_below HW2.out B43)
  clear HW2
  have HW2 := HW2n_
  clear HW2n_
  have HTn_ := Aside0.mk ((HT.out.apart (a := g40) (Nat.le_of_eq hg40)).below B43)
  clear HT
  have HT := HTn_
  clear HTn_
  refine q_of (wn rfl) ?_
  refine e_store (vs := [.int .i64 s.f0, .int .u32 s.f1, .bool s.f2.f0, .slice Aw2 s.f2.f1.length cw2, .int .i64 s.f3]) (cs' := [.int .i64 s.f0, .int .u32 s.f1, .bool s.f2.f0, .slice Aw2 s.f2.f1.length cw2, .int .i64 s.f3]) (σ' := [⟨g40, true, .cells #[.int .i64 s.f0, .int .u32 s.f1, .bool s.f2.f0, .slice Aw2 s.f2.f1.length cw2, .int .i64 s.f3] 28 (0, 0)⟩, ⟨g21, true, .cells #[.int .i64 s.f0, .int .u32 s.f1, .bool s.f2.f0, .slice Aw1 s.f2.f1.length cw1, .int .i64 s.f3] 28 (0, 0)⟩, ⟨g6, true, .cells #[.int .i64 kd, .int .i64 fd, .int .i64 s0, .int .u32 s1, .bool b0, .slice B5 ((cut50 l5).length) d5, .int .i64 s3, .slice B7 ((cut50 l7).length) d7] 30 (0, 0)⟩, ⟨g2, true, .cells #[.int .i64 s.f0, .int .u32 s.f1, .bool s.f2.f0, .slice A s.f2.f1.length c, .int .i64 s.f3] 28 (0, 0)⟩]) S42 rfl rfl rfl rfl sz_28 0 rfl (.inl rfl) rfl rfl rfl ?_
  intro w44 S45 E46
  have HW1n_ := Aside0.mk (R_ext HW1.out E46 (S42.blk 0 rfl) (by decide))
  clear HW1
  have HW1 := HW1n_
  clear HW1n_
  have HO7n_ := Aside0.mk (R_ext HO7.out E46 (S42.blk 0 rfl) (by decide))
  clear HO7
  have HO7 := HO7n_
  clear HO7n_
  have HW2n_ := Aside0.mk (R_ext HW2.out E46 (S42.blk 0 rfl) (by decide))
  clear HW2
  have HW2 := HW2n_
  clear HW2n_
  have HTn_ := Aside0.mk (HT.out.move (fun k_ hk_ hl_ => E46.block k_ hl_ (fun e_ => by (try dsimp only at e_ hk_); omega)))
  clear HT
  have HT := HTn_
  clear HTn_
  refine q_val (v := .int .i64 0) (wn rfl) rfl (r_assign rfl) ?_
  refine q_nil ?_
  refine x_seq ?_
  refine s_seq ?_
  refine s_region ?_
  refine q_val (v := .int .i64 0) (wn rfl) rfl (r_move rfl) ?_
  refine q_val (v := .bool true) (wn rfl) rfl (r_eql rfl rfl (beq_t (by omega))) ?_
  refine q_val (v := .bool true) (wn rfl) rfl (r_move rfl) ?_
  refine q_val (v := .agg #[.int .i64 s.f0, .int .u32 s.f1, .bool s.f2.f0, .slice Aw2 s.f2.f1.length cw2, .int .i64 s.f3]) (wan rfl rfl rfl rfl) rfl (r_loadN (vs := [.int .i64 s.f0, .int .u32 s.f1, .bool s.f2.f0, .slice Aw2 s.f2.f1.length cw2, .int .i64 s.f3]) sz_28 rfl (S45.blk 0 rfl) rfl rfl) ?_
  refine q_val (v := .agg #[.int .i64 s.f0, .int .u32 s.f1, .bool s.f2.f0, .slice Aw1 s.f2.f1.length cw1, .int .i64 s.f3]) (wan rfl rfl rfl rfl) rfl (r_loadN (vs := [.int .i64 s.f0, .int .u32 s.f1, .bool s.f2.f0, .slice Aw1 s.f2.f1.length cw1, .int .i64 s.f3]) sz_28 rfl (S45.blk 1 rfl) rfl rfl) ?_
  refine q_of (wan rfl rfl rfl rfl) ?_
  refine e_call (args := [.agg #[.int .i64 s.f0, .int .u32 s.f1, .bool s.f2.f0, .slice Aw2 s.f2.f1.length cw2, .int .i64 s.f3], .agg #[.int .i64 s.f0, .int .u32 s.f1, .bool s.f2.f0, .slice Aw1 s.f2.f1.length cw1, .int .i64 s.f3]]) Try.func17 (by kernel_rfl) rfl rfl ?_
  refine (purlieuref13_Within.calls 400 s.f0 s.f1 s.f2.f0 Aw2 cw2 s.f2.f1 s.f3 s.f0 s.f1 s.f2.f0 Aw1 cw1 s.f2.f1 s.f3 true _ (R_C HW2.out).2 (R_C HW2.out).1 (R_C HW1.out).2 (R_C HW1.out).1 HWi.out).mono ?_
  rintro e w47 ⟨rfl, hb⟩
  refine ⟨_, rfl, ?_⟩
  have B48 := hb
  have S49 := S45.call B48
  have HW1n_ := Aside0.mk (R_below HW1.out B48)
  clear HW1
  have HW1 := HW1n_
  clear HW1n_
  have HO7n_ := Aside0.mk (R_below HO7.out B48)
  clear HO7
  have HO7 := HO7n_
  clear HO7n_
  have HW2n_ := Aside0.mk (R_below HW2.out B48)
  clear HW2
  have HW2 := HW2n_
  clear HW2n_
  have HTn_ := Aside0.mk (HT.out.below B48)
  clear HT
  have HT := HTn_
  clear HTn_
  refine q_val (v := .bool true) (wn rfl) rfl (r_pick_t rfl rfl) ?_
  refine q_val (v := .bool true) (wn rfl) rfl (r_move rfl) ?_
  refine q_val (v := .int .i64 r2) (wan rfl rfl rfl rfl) rfl (r_move rfl) ?_
  refine q_val (v := .bool false) (wan rfl rfl rfl rfl) rfl (r_eql rfl rfl (beq_f (he))) ?_
  refine q_val (v := .bool false) (wan rfl rfl rfl rfl) rfl (r_move rfl) ?_
  refine q_val (v := .agg #[.int .i64 s.f0, .int .u32 s.f1, .bool s.f2.f0, .slice Aw2 s.f2.f1.length cw2, .int .i64 s.f3]) (wan rfl rfl rfl rfl) rfl (r_loadN (vs := [.int .i64 s.f0, .int .u32 s.f1, .bool s.f2.f0, .slice Aw2 s.f2.f1.length cw2, .int .i64 s.f3]) sz_28 rfl (S49.blk 0 rfl) rfl rfl) ?_
  refine q_val (v := .agg #[.int .i64 s.f0, .int .u32 s.f1, .bool s.f2.f0, .slice Aw1 s.f2.f1.length cw1, .int .i64 s.f3]) (wan rfl rfl rfl rfl) rfl (r_loadN (vs := [.int .i64 s.f0, .int .u32 s.f1, .bool s.f2.f0, .slice Aw1 s.f2.f1.length cw1, .int .i64 s.f3]) sz_28 rfl (S49.blk 1 rfl) rfl rfl) ?_
  refine q_of (wan rfl rfl rfl rfl) ?_
  refine e_call (args := [.agg #[.int .i64 s.f0, .int .u32 s.f1, .bool s.f2.f0, .slice Aw2 s.f2.f1.length cw2, .int .i64 s.f3], .agg #[.int .i64 s.f0, .int .u32 s.f1, .bool s.f2.f0, .slice Aw1 s.f2.f1.length cw1, .int .i64 s.f3]]) Try.func18 (by kernel_rfl) rfl rfl ?_
  obtain ⟨ko, hko⟩ := one_same s (by omega)
  refine (purlieuref13_One.calls ko s.f0 s.f1 s.f2.f0 Aw2 cw2 s.f2.f1 s.f3 s.f0 s.f1 s.f2.f0 Aw1 cw1 s.f2.f1 s.f3 true _ (R_C HW2.out).2 (R_C HW2.out).1 (R_C HW1.out).2 (R_C HW1.out).1 hko).mono ?_
  rintro e w50 ⟨rfl, hb⟩
  refine ⟨_, rfl, ?_⟩
  have B51 := hb
  have S52 := S49.call B51
  have HW1n_ := Aside0.mk (R_below HW1.out B51)
  clear HW1
  have HW1 := HW1n_
  clear HW1n_
  have HO7n_ := Aside0.mk (R_below HO7.out B51)
  clear HO7
  have HO7 := HO7n_
  clear HO7n_
  have HW2n_ := Aside0.mk (R_below HW2.out B51)
  clear HW2
  have HW2 := HW2n_
  clear HW2n_
  have HTn_ := Aside0.mk (HT.out.below B51)
  clear HT
  have HT := HTn_
  clear HTn_
  refine q_val (v := .bool true) (wan rfl rfl rfl rfl) rfl (r_pick_f rfl rfl) ?_
  refine q_val (v := .bool true) (wn rfl) rfl (r_pick_t rfl rfl) ?_
  refine q_val (v := .bool true) (wn rfl) rfl (r_move rfl) ?_
  refine q_of (wan rfl rfl rfl rfl) ?_
  refine e_call (args := []) Try.func10 (by kernel_rfl) rfl rfl ?_
  refine (lives_calls _).mono ?_
  rintro e w53 ⟨rfl, hb⟩
  refine ⟨_, rfl, ?_⟩
  have B54 := hb
  have S55 := S52.call B54
  have HW1n_ := Aside0.mk (R_below HW1.out B54)
  clear HW1
  have HW1 := HW1n_
  clear HW1n_
  have HO7n_ := Aside0.mk (R_below HO7.out B54)
  clear HO7
  have HO7 := HO7n_
  clear HO7n_
  have HW2n_ := Aside0.mk (R_below HW2.out B54)
  clear HW2
  have HW2 := HW2n_
  clear HW2n_
  have HTn_ := Aside0.mk (HT.out.below B54)
  clear HT
  have HT := HTn_
  clear HTn_
  refine q_val (v := .bool true) (wn rfl) rfl (r_pick_t rfl rfl) ?_
  refine q_val (v := .bool true) (wn rfl) rfl (r_assign rfl) ?_
  refine q_nil ?_
  refine x_seq ?_
  refine s_ret ?_
  refine t_ret1 (v := .bool true) rfl rfl ?_
  exact ⟨rfl, S55.ext.below⟩

end Go.Proofs.Ytilfalpfanaanaa.PA

namespace Go.Proofs.Ytilfalpfanaanaa.PA
open Go.RowKit Go.Proofs.YtilfalpfanaanaaW.PrintWords Go.Proofs.YtilfalpfanaanaaW.PrintLast Go.Proofs.YtilfalpfanaanaaW.PrintMore Go.Proofs.Ytilfalpfanaanaa.Sx
set_option linter.unusedVariables false
set_option maxRecDepth 100000
theorem lim_le (s : Slot) (r : Int) (hl : s.f2.f1.length ≤ 50) : (limS s r).f2.f1.length ≤ 200 := by
  unfold limS; dsimp only; split
  · simp
  · omega
theorem subset_is (a b : Int) : rights_Subset.f a b = some (decide (Go.bits .andNot .u32 a b = 0)) := by
  unfold rights_Subset.f
  congr 1
theorem slotsLess_walk (W : World) {s : Slot} {A : Option Addr} {c : Nat} (hr : Kd.C (Kd.int .i64) W A s.f2.f1.length s.f2.f1) (hc : s.f2.f1.length ≤ c) (hs1 : (Lit.int .u32 s.f1).wf = true)
    {x : ActV} {A5 A7 : Option Addr} {c5 c7 : Nat} (h : ActAt W x A5 c5 A7 c7) :
    Calls Try.prog 3 #[.agg #[.int .i64 s.f0, .int .u32 s.f1, .bool s.f2.f0, .slice A s.f2.f1.length c, .int .i64 s.f3], .agg (x.cells A5 c5 A7 c7).toArray] W fun e w' => e = .returned (.bool true) ∧ Below W.heap.size W w' := by
  obtain ⟨kd, fd, s0, s1, b0, l5, s3, l7⟩ := x
  have h5 := h.r5; have h7 := h.r7; have k5 := h.k5; have k7 := h.k7
  have hs := u32_nonneg hs1; have ha : 0 ≤ s1 := u32_nonneg h.w1
  by_cases hl : 50 < s.f2.f1.length
  · exact SlotsLess_len s A c kd fd s0 s1 b0 A5 c5 l5 s3 A7 c7 l7 W hr hc h5 k5 h7 k7 hl
  have hl : s.f2.f1.length ≤ 50 := by omega
  cases hcan : canS s
  · exact SlotsLess_can s A c kd fd s0 s1 b0 A5 c5 l5 s3 A7 c7 l7 W hr hc h5 k5 h7 k7 hl hcan
  have h50 : (cut50 l7).length ≤ 200 := by unfold cut50; split <;> first | omega | (rw [List.length_take]; omega)
  by_cases hk : kd = 3
  · by_cases hz : an32 s1 s.f1
    · exact SlotsLess_lim_ok s A c kd fd s0 s1 b0 A5 c5 l5 s3 A7 c7 l7 W hr hc h5 k5 h7 k7 hl hcan hk (by rw [subset_is, decide_eq_true (show Go.bits .andNot .u32 s1 s.f1 = 0 from hz)]) (limS s s1) rfl (within_lim s s1 hcan hl hs ha hz) (lim_le s s1 hl)
    · exact SlotsLess_lim_bad s A c kd fd s0 s1 b0 A5 c5 l5 s3 A7 c7 l7 W hr hc h5 k5 h7 k7 hl hcan hk (by rw [subset_is, decide_eq_false (show ¬ Go.bits .andNot .u32 s1 s.f1 = 0 from hz)]) (within_refl s hcan hl hs)
  by_cases hk4 : kd = 4
  · have hw := wlim_eq s.f2.f0 s.f2.f1 (cut50 l7) (by omega) h50
    by_cases hz : (limR s.f2.f0 s.f2.f1 (cut50 l7)).2.2 = 0
    · exact SlotsLess_io_ok s A c kd fd s0 s1 b0 A5 c5 l5 s3 A7 c7 l7 W hr hc h5 k5 h7 k7 hl hcan hk4 _ _ (by rw [hw, ← hz]) _ rfl (within_io s (cut50 l7) h50 hcan hl hs hz) (lim_len _ _ _ h50)
    · exact SlotsLess_io_bad s A c kd fd s0 s1 b0 A5 c5 l5 s3 A7 c7 l7 W hr hc h5 k5 h7 k7 hl hcan hk4 _ _ _ hw hz (within_refl s hcan hl hs)
  have hw := mask_eq s.f3 s3
  by_cases hz : (maskV s.f3 s3).2 = 0
  · exact SlotsLess_fc_ok s A c kd fd s0 s1 b0 A5 c5 l5 s3 A7 c7 l7 W hr hc h5 k5 h7 k7 hl hcan hk hk4 s3 (by rw [hw, mask_val _ _ hz]) _ rfl (within_fc s s3 hcan hl hs hz) (by dsimp only; omega)
  · exact SlotsLess_fc_bad s A c kd fd s0 s1 b0 A5 c5 l5 s3 A7 c7 l7 W hr hc h5 k5 h7 k7 hl hcan hk hk4 _ _ hw hz (within_refl s hcan hl hs)
end Go.Proofs.Ytilfalpfanaanaa.PA
