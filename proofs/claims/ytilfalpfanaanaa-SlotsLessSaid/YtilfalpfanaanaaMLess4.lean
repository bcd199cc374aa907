/- Parts of one proof, put together by a program of this session's (wip/merge.py). -/
import Derived.Test.YtilfalpfanaanaaMLess3
import Derived.Test.YtilfalpfanaanaaMLess1
namespace Go.Proofs.Ytilfalpfanaanaa.PA
open Go.RowKit Go.Proofs.YtilfalpfanaanaaW.PrintWords Go.Proofs.YtilfalpfanaanaaW.PrintLast Go.Proofs.YtilfalpfanaanaaW.PrintMore Go.Proofs.Ytilfalpfanaanaa.Sx
set_option linter.unusedVariables false
set_option linter.unusedSimpArgs false
set_option maxHeartbeats 8000000 in
set_option maxRecDepth 100000 in
theorem own_calls (kd fd s0 s1 : Int) (b0 : Bool) (A5 : Option Addr) (c5 : Nat) (l5 : List Int) (s3 : Int) (A7 : Option Addr) (c7 : Nat) (l7 : List Int) (w : World) (hr5 : Kd.C (Kd.int .i64) w A5 l5.length l5) (hc5 : l5.length ≤ c5) (hr7 : Kd.C (Kd.int .i64) w A7 l7.length l7) (hc7 : l7.length ≤ c7) :
    Calls Try.prog 13 #[.agg #[.int .i64 kd, .int .i64 fd, .int .i64 s0, .int .u32 s1, .bool b0, .slice A5 l5.length c5, .int .i64 s3, .slice A7 l7.length c7]] w fun e w' => ∃ v5 v7, e = .returned (.agg #[.int .i64 kd, .int .i64 fd, .int .i64 s0, .int .u32 s1, .bool b0, v5, .int .i64 s3, v7]) ∧ Kd.R (Kd.int .i64) 3 w' w.heap.size (fun _ => True) v5 (cut50 l5) ∧ Kd.R (Kd.int .i64) 3 w' w.heap.size (fun _ => True) v7 (cut50 l7) ∧ Below w.heap.size w w' := by
  have HC5 := Aside0.mk hr5
  have HC7 := Aside0.mk hr7
  clear hr5 hr7
  refine s_enter (n := 37) (L := [(0, .agg #[.int .i64 kd, .int .i64 fd, .int .i64 s0, .int .u32 s1, .bool b0, .slice A5 l5.length c5, .int .i64 s3, .slice A7 l7.length c7])]) Try.func13 rfl rfl rfl rfl ?_
  have S1 := St.start w no
  refine s_seq ?_
  refine s_region ?_
  refine q_of (wn rfl) ?_
  refine e_box (cs := [.int .i64 kd, .int .i64 fd, .int .i64 s0, .int .u32 s1, .bool b0, .slice A5 l5.length c5, .int .i64 s3, .slice A7 l7.length c7]) S1 rfl rfl ?_
  intro g2 w3 hg2 S4 B5
  refine q_of (wn rfl) ?_
  refine e_alloc S4 zro_30 ?_
  intro g6 w7 hg6 S8 B9
  refine q_nil ?_
  refine x_seq ?_
  refine s_seq ?_
  refine s_seq ?_
  refine s_region ?_
  refine q_val (v := .pointer (some ⟨g2, 7, none⟩)) (wn rfl) rfl (r_field fld_30_3 rfl rfl) ?_
  refine q_val (v := .slice A7 l7.length c7) (wn rfl) rfl (r_load1 sz_24 rfl (S8.cell 1 rfl rfl)) ?_
  refine q_val (v := .int .i64 ((l7.length : Nat) : Int)) (wn rfl) rfl (r_len_slice elm_24 rfl) ?_
  by_cases h7 : ((((l7.length : Nat) : Int) : Int) > 50)
  · skip
    refine q_val (v := .bool true) (wn rfl) rfl (r_gtr rfl rfl (decide_eq_true (h7))) ?_
    refine q_nil ?_
    refine x_seq ?_
    refine s_true rfl ?_
    refine s_region ?_
    refine q_val (v := .pointer (some ⟨g2, 7, none⟩)) (wn rfl) rfl (r_field fld_30_3 rfl rfl) ?_
    refine q_val (v := .slice A7 l7.length c7) (wn rfl) rfl (r_load1 sz_24 rfl (S8.cell 1 rfl rfl)) ?_
    refine q_val (v := .slice A7 50 c7) (wn rfl) rfl (r_slice_h (q := 50) elm_24 rfl rfl (by omega) (by omega)) ?_
    refine q_val (v := .pointer (some ⟨g2, 7, none⟩)) (wn rfl) rfl (r_field fld_30_3 rfl rfl) ?_
    refine q_of (wn rfl) ?_
    refine e_store (vs := [.slice A7 50 c7]) (cs' := [.int .i64 kd, .int .i64 fd, .int .i64 s0, .int .u32 s1, .bool b0, .slice A5 l5.length c5, .int .i64 s3, .slice A7 50 c7]) (σ' := [⟨g6, true, .cells #[.int .i64 0, .int .i64 0, .int .i64 0, .int .u32 0, .bool false, .slice none 0 0, .int .i64 0, .slice none 0 0] 30 (0, 0)⟩, ⟨g2, true, .cells #[.int .i64 kd, .int .i64 fd, .int .i64 s0, .int .u32 s1, .bool b0, .slice A5 l5.length c5, .int .i64 s3, .slice A7 50 c7] 30 (0, 0)⟩]) S8 rfl rfl rfl rfl sz_24 1 rfl (.inl rfl) rfl rfl rfl ?_
    intro w10 S11 E12
    refine q_nil ?_
    refine x_seq ?_
    refine s_seq ?_
    refine s_seq ?_
    refine s_region ?_
    refine q_val (v := .pointer (some ⟨g2, 2, none⟩)) (wn rfl) rfl (r_field fld_30_2 rfl rfl) ?_
    refine q_val (v := .pointer (some ⟨g2, 4, none⟩)) (wn rfl) rfl (r_field fld_28_2 rfl rfl) ?_
    refine q_val (v := .pointer (some ⟨g2, 5, none⟩)) (wn rfl) rfl (r_field fld_26_1 rfl rfl) ?_
    refine q_val (v := .slice A5 l5.length c5) (wn rfl) rfl (r_load1 sz_24 rfl (S11.cell 1 rfl rfl)) ?_
    refine q_val (v := .int .i64 ((l5.length : Nat) : Int)) (wn rfl) rfl (r_len_slice elm_24 rfl) ?_
    by_cases h5 : ((((l5.length : Nat) : Int) : Int) > 50)
    · skip
      refine q_val (v := .bool true) (wn rfl) rfl (r_gtr rfl rfl (decide_eq_true (h5))) ?_
      refine q_nil ?_
      refine x_seq ?_
      refine s_true rfl ?_
      refine s_region ?_
      refine q_val (v := .pointer (some ⟨g2, 2, none⟩)) (wn rfl) rfl (r_field fld_30_2 rfl rfl) ?_
      refine q_val (v := .pointer (some ⟨g2, 4, none⟩)) (wn rfl) rfl (r_field fld_28_2 rfl rfl) ?_
      refine q_val (v := .pointer (some ⟨g2, 5, none⟩)) (wn rfl) rfl (r_field fld_26_1 rfl rfl) ?_
      refine q_val (v := .slice A5 l5.length c5) (wn rfl) rfl (r_load1 sz_24 rfl (S11.cell 1 rfl rfl)) ?_
      refine q_val (v := .slice A5 50 c5) (wn rfl) rfl (r_slice_h (q := 50) elm_24 rfl rfl (by omega) (by omega)) ?_
      refine q_val (v := .pointer (some ⟨g2, 2, none⟩)) (wn rfl) rfl (r_field fld_30_2 rfl rfl) ?_
      refine q_val (v := .pointer (some ⟨g2, 4, none⟩)) (wn rfl) rfl (r_field fld_28_2 rfl rfl) ?_
      refine q_val (v := .pointer (some ⟨g2, 5, none⟩)) (wn rfl) rfl (r_field fld_26_1 rfl rfl) ?_
      refine q_of (wn rfl) ?_
      refine e_store (vs := [.slice A5 50 c5]) (cs' := [.int .i64 kd, .int .i64 fd, .int .i64 s0, .int .u32 s1, .bool b0, .slice A5 50 c5, .int .i64 s3, .slice A7 50 c7]) (σ' := [⟨g6, true, .cells #[.int .i64 0, .int .i64 0, .int .i64 0, .int .u32 0, .bool false, .slice none 0 0, .int .i64 0, .slice none 0 0] 30 (0, 0)⟩, ⟨g2, true, .cells #[.int .i64 kd, .int .i64 fd, .int .i64 s0, .int .u32 s1, .bool b0, .slice A5 50 c5, .int .i64 s3, .slice A7 50 c7] 30 (0, 0)⟩]) S11 rfl rfl rfl rfl sz_24 1 rfl (.inl rfl) rfl rfl rfl ?_
      intro w13 S14 E15
      refine q_nil ?_
      refine x_seq ?_
      refine s_seq ?_
      refine d_start mix (fun _ => True) ?_
      have S16 := S14.draw
      generalize w13.drew = w17 at S16 ⊢
      refine d_take (v := .pointer (some ⟨g2, 7, none⟩)) (listed' := #[false, true, false, false, false, false, false, false, false, false, false, false, false]) 1 rfl (by kernel_rfl) (by kernel_rfl) (by kernel_rfl) rfl (fun _ _ _ h => h) (wn rfl) (fun W hW => r_field fld_30_3 rfl rfl) trivial (by kernel_rfl) ?_
      refine d_take (v := .pointer (some ⟨g2, 2, none⟩)) (listed' := #[false, true, false, false, true, false, false, false, false, false, false, false, false]) 4 rfl (by kernel_rfl) (by kernel_rfl) (by kernel_rfl) rfl (fun _ _ _ h => h) (wn rfl) (fun W hW => r_field fld_30_2 rfl rfl) trivial (by kernel_rfl) ?_
      refine d_take (v := .pointer (some ⟨g2, 4, none⟩)) (listed' := #[false, true, false, false, true, true, false, false, false, false, false, false, false]) 5 rfl (by kernel_rfl) (by kernel_rfl) (by kernel_rfl) rfl (fun _ _ _ h => h) (wn rfl) (fun W hW => r_field fld_28_2 rfl rfl) trivial (by kernel_rfl) ?_
      refine d_three (la := #[true, true, false, false, true, true, false, false, false, false, false, false, false]) (lb := #[false, true, true, false, true, true, false, false, false, false, false, false, false]) (lc := #[false, true, false, false, true, true, true, false, false, false, false, false, false]) 0 2 6 rfl rfl rfl (by kernel_rfl) (wn rfl) (wn rfl) (wn rfl) (by kernel_rfl) (by kernel_rfl) (by kernel_rfl) ?_ ?_ ?_
      · skip
        refine e_new (vf := fun g => .slice (some ⟨g, 0, none⟩) 0 0) (ob := .cells #[] 3) rfl S16 (r_buildSlice (ps := []) rfl (by kernel_rfl)) ?_
        intro g18 w19 hg18 S20 B21
        refine ⟨trivial, ?_⟩
        refine d_two (listed' := #[true, true, true, false, true, true, false, false, false, false, false, false, false]) (listed'' := #[true, true, false, false, true, true, true, false, false, false, false, false, false]) 2 6 rfl rfl (by kernel_rfl) (wn rfl) (wn rfl) (by kernel_rfl) (by kernel_rfl) ?_ ?_
        · skip
          refine e_val (v := .slice A7 50 c7) rfl (r_load1 sz_24 rfl (S20.cell 2 rfl rfl)) ?_
          refine ⟨trivial, ?_⟩
          refine d_two (listed' := #[true, true, true, true, true, true, false, false, false, false, false, false, false]) (listed'' := #[true, true, true, false, true, true, true, false, false, false, false, false, false]) 3 6 rfl rfl (by kernel_rfl) (wn rfl) (wn rfl) (by kernel_rfl) (by kernel_rfl) ?_ ?_
          · skip
            have hC22 : Kd.C (Kd.int .i64) w19 A7 50 (l7.take 50) := by have h_ := C_take (Kd.C_below HC7.out S20.ext.below) 50; rw [take50 (by omega)] at h_; exact h_
            obtain ⟨v22, w22, hr22, HRa22, E22⟩ := append_row (c := c7) 24 (empty_row (base := w.heap.size) (S20.blk 0 rfl) (S20.own _ (List.mem_of_getElem? (i := 0) rfl) rfl)) hC22 (by first | (simp; done) | (simp; omega)) (S20.ext.size)
            rw [List.nil_append] at HRa22
            obtain ⟨Aa, ca, rfl⟩ := Kd.R_slice HRa22
            refine e_val (v := .slice Aa (l7.take 50).length ca) rfl (r_append rfl rfl hr22) ?_
            obtain ⟨S22, F22⟩ := St_app S20 E22
            have HRa := Aside0.mk HRa22
            refine ⟨trivial, ?_⟩
            refine d_one (listed' := #[true, true, true, true, true, true, true, false, false, false, false, false, false]) 6 rfl (by kernel_rfl) (wn rfl) (by kernel_rfl) ?_
            refine e_val (v := .agg #[.bool b0, .slice A5 50 c5]) rfl (r_loadN (vs := [.bool b0, .slice A5 50 c5]) sz_26 rfl (S22.blk 1 rfl) rfl rfl) ?_
            refine ⟨trivial, ?_⟩
            refine d_take (v := .pointer (some ⟨g2, 7, none⟩)) (listed' := #[true, true, true, true, true, true, true, false, true, false, false, false, false]) 8 rfl (by kernel_rfl) (by kernel_rfl) (by kernel_rfl) rfl (fun _ _ _ h => h) (wn rfl) (fun W hW => r_field fld_30_3 rfl rfl) trivial (by kernel_rfl) ?_
            refine d_one (listed' := #[true, true, true, true, true, true, true, true, true, false, false, false, false]) 7 rfl (by kernel_rfl) (wn rfl) (by kernel_rfl) ?_
            refine e_call (args := [.agg #[.bool b0, .slice A5 50 c5]]) Try.func38 (by kernel_rfl) rfl rfl ?_
            have hC5 := C_take (Kd.C_below HC5.out S22.ext.below) 50
            refine (Own_at b0 A5 c5 (l5.take 50) 50 (take50 (by omega)) _ hC5 (by rw [List.length_take]; omega) (by rw [List.length_take]; omega)).mono ?_
            rintro e w23 ⟨v, rfl, ho, hb⟩
            obtain ⟨Ab, cb, rfl⟩ := Kd.R_slice ho
            refine ⟨_, rfl, ?_⟩
            have B24 := hb
            have S25 := S22.call B24
            have HRan := Aside0.mk (R_below HRa.out B24)
            clear HRa
            have HRa := HRan
            clear HRan
            have HRb := Aside0.mk ho
            clear ho
            have HBo := S22.ext.size
            refine ⟨trivial, ?_⟩
            refine d_one (listed' := #[true, true, true, true, true, true, true, true, true, true, false, false, false]) 9 rfl (by kernel_rfl) (wn rfl) (by kernel_rfl) ?_
            refine e_store (vs := [.slice Aa ((l7.take 50).length) ca]) (cs' := [.int .i64 kd, .int .i64 fd, .int .i64 s0, .int .u32 s1, .bool b0, .slice A5 50 c5, .int .i64 s3, .slice Aa ((l7.take 50).length) ca]) (σ' := [⟨g6, true, .cells #[.int .i64 0, .int .i64 0, .int .i64 0, .int .u32 0, .bool false, .slice none 0 0, .int .i64 0, .slice none 0 0] 30 (0, 0)⟩, ⟨g2, true, .cells #[.int .i64 kd, .int .i64 fd, .int .i64 s0, .int .u32 s1, .bool b0, .slice A5 50 c5, .int .i64 s3, .slice Aa ((l7.take 50).length) ca] 30 (0, 0)⟩]) S25 rfl rfl rfl rfl sz_24 1 rfl (.inl rfl) rfl rfl rfl ?_
            intro w26 S27 E28
            have HRan := Aside0.mk (R_ext HRa.out E28 (S25.blk 1 rfl) (by decide))
            clear HRa
            have HRa := HRan
            clear HRan
            have HRbn := Aside0.mk (R_ext HRb.out E28 (S25.blk 1 rfl) (by decide))
            clear HRb
            have HRb := HRbn
            clear HRbn
            refine ⟨trivial, ?_⟩
            refine d_take (v := .pointer (some ⟨g2, 2, none⟩)) (listed' := #[true, true, true, true, true, true, true, true, true, true, true, false, false]) 10 rfl (by kernel_rfl) (by kernel_rfl) (by kernel_rfl) rfl (fun _ _ _ h => h) (wn rfl) (fun W hW => r_field fld_30_2 rfl rfl) trivial (by kernel_rfl) ?_
            refine d_take (v := .pointer (some ⟨g2, 4, none⟩)) (listed' := #[true, true, true, true, true, true, true, true, true, true, true, true, false]) 11 rfl (by kernel_rfl) (by kernel_rfl) (by kernel_rfl) rfl (fun _ _ _ h => h) (wn rfl) (fun W hW => r_field fld_28_2 rfl rfl) trivial (by kernel_rfl) ?_
            refine d_one (listed' := #[true, true, true, true, true, true, true, true, true, true, true, true, true]) 12 rfl (by kernel_rfl) (wn rfl) (by kernel_rfl) ?_
            refine e_store (vs := [.bool b0, .slice Ab ((l5.take 50).length) cb]) (cs' := [.int .i64 kd, .int .i64 fd, .int .i64 s0, .int .u32 s1, .bool b0, .slice Ab ((l5.take 50).length) cb, .int .i64 s3, .slice Aa ((l7.take 50).length) ca]) (σ' := [⟨g6, true, .cells #[.int .i64 0, .int .i64 0, .int .i64 0, .int .u32 0, .bool false, .slice none 0 0, .int .i64 0, .slice none 0 0] 30 (0, 0)⟩, ⟨g2, true, .cells #[.int .i64 kd, .int .i64 fd, .int .i64 s0, .int .u32 s1, .bool b0, .slice Ab ((l5.take 50).length) cb, .int .i64 s3, .slice Aa ((l7.take 50).length) ca] 30 (0, 0)⟩]) S27 rfl rfl rfl rfl sz_26 1 rfl (.inl rfl) rfl rfl rfl ?_
            intro w29 S30 E31
            have HRan := Aside0.mk (R_ext HRa.out E31 (S27.blk 1 rfl) (by decide))
            clear HRa
            have HRa := HRan
            clear HRan
            have HRbn := Aside0.mk (R_ext HRb.out E31 (S27.blk 1 rfl) (by decide))
            clear HRb
            have HRb := HRbn
            clear HRbn
            refine ⟨trivial, ?_⟩
            refine d_done (by kernel_rfl) ?_
            refine x_seq ?_
            refine s_seq ?_
            refine s_region ?_
            refine q_val (v := .agg #[.int .i64 kd, .int .i64 fd, .int .i64 s0, .int .u32 s1, .bool b0, .slice Ab ((l5.take 50).length) cb, .int .i64 s3, .slice Aa ((l7.take 50).length) ca]) (wn rfl) rfl (r_loadN (vs := [.int .i64 kd, .int .i64 fd, .int .i64 s0, .int .u32 s1, .bool b0, .slice Ab ((l5.take 50).length) cb, .int .i64 s3, .slice Aa ((l7.take 50).length) ca]) sz_30 rfl (S30.blk 1 rfl) rfl rfl) ?_
            refine q_of (wn rfl) ?_
            refine e_store (vs := [.int .i64 kd, .int .i64 fd, .int .i64 s0, .int .u32 s1, .bool b0, .slice Ab ((l5.take 50).length) cb, .int .i64 s3, .slice Aa ((l7.take 50).length) ca]) (cs' := [.int .i64 kd, .int .i64 fd, .int .i64 s0, .int .u32 s1, .bool b0, .slice Ab ((l5.take 50).length) cb, .int .i64 s3, .slice Aa ((l7.take 50).length) ca]) (σ' := [⟨g6, true, .cells #[.int .i64 kd, .int .i64 fd, .int .i64 s0, .int .u32 s1, .bool b0, .slice Ab ((l5.take 50).length) cb, .int .i64 s3, .slice Aa ((l7.take 50).length) ca] 30 (0, 0)⟩, ⟨g2, true, .cells #[.int .i64 kd, .int .i64 fd, .int .i64 s0, .int .u32 s1, .bool b0, .slice Ab ((l5.take 50).length) cb, .int .i64 s3, .slice Aa ((l7.take 50).length) ca] 30 (0, 0)⟩]) S30 rfl rfl rfl rfl sz_30 0 rfl (.inl rfl) rfl rfl rfl ?_
            intro w32 S33 E34
            have HRan := Aside0.mk (R_ext HRa.out E34 (S30.blk 0 rfl) (by decide))
            clear HRa
            have HRa := HRan
            clear HRan
            have HRbn := Aside0.mk (R_ext HRb.out E34 (S30.blk 0 rfl) (by decide))
            clear HRb
            have HRb := HRbn
            clear HRbn
            refine q_nil ?_
            refine x_seq ?_
            refine s_ret ?_
            refine t_retc (cs := [.int .i64 kd, .int .i64 fd, .int .i64 s0, .int .u32 s1, .bool b0, .slice Ab ((l5.take 50).length) cb, .int .i64 s3, .slice Aa ((l7.take 50).length) ca])  rfl rfl (S33.blk 0 rfl) sz_30 ?_
            have el7 : cut50 l7 = (l7.take 50) := by unfold cut50; first | rw [if_pos (by omega)] | rw [if_neg (by omega)]
            have el5 : cut50 l5 = (l5.take 50) := by unfold cut50; first | rw [if_pos (by omega)] | rw [if_neg (by omega)]
            rw [el7, el5]
            exact ⟨_, _, rfl, Kd.R_lower HRb.out HBo, HRa.out, S33.ext.below⟩
          · skip
            refine e_val (v := .agg #[.bool b0, .slice A5 50 c5]) rfl (r_loadN (vs := [.bool b0, .slice A5 50 c5]) sz_26 rfl (S20.blk 2 rfl) rfl rfl) ?_
            refine ⟨trivial, ?_⟩
            refine d_one (listed' := #[true, true, true, true, true, true, true, false, false, false, false, false, false]) 3 rfl (by kernel_rfl) (wn rfl) (by kernel_rfl) ?_
            have hC35 : Kd.C (Kd.int .i64) w19 A7 50 (l7.take 50) := by have h_ := C_take (Kd.C_below HC7.out S20.ext.below) 50; rw [take50 (by omega)] at h_; exact h_
            obtain ⟨v35, w35, hr35, HRa35, E35⟩ := append_row (c := c7) 24 (empty_row (base := w.heap.size) (S20.blk 0 rfl) (S20.own _ (List.mem_of_getElem? (i := 0) rfl) rfl)) hC35 (by first | (simp; done) | (simp; omega)) (S20.ext.size)
            rw [List.nil_append] at HRa35
            obtain ⟨Aa, ca, rfl⟩ := Kd.R_slice HRa35
            refine e_val (v := .slice Aa (l7.take 50).length ca) rfl (r_append rfl rfl hr35) ?_
            obtain ⟨S35, F35⟩ := St_app S20 E35
            have HRa := Aside0.mk HRa35
            refine ⟨trivial, ?_⟩
            refine d_take (v := .pointer (some ⟨g2, 7, none⟩)) (listed' := #[true, true, true, true, true, true, true, false, true, false, false, false, false]) 8 rfl (by kernel_rfl) (by kernel_rfl) (by kernel_rfl) rfl (fun _ _ _ h => h) (wn rfl) (fun W hW => r_field fld_30_3 rfl rfl) trivial (by kernel_rfl) ?_
            refine d_one (listed' := #[true, true, true, true, true, true, true, true, true, false, false, false, false]) 7 rfl (by kernel_rfl) (wn rfl) (by kernel_rfl) ?_
            refine e_call (args := [.agg #[.bool b0, .slice A5 50 c5]]) Try.func38 (by kernel_rfl) rfl rfl ?_
            have hC5 := C_take (Kd.C_below HC5.out S35.ext.below) 50
            refine (Own_at b0 A5 c5 (l5.take 50) 50 (take50 (by omega)) _ hC5 (by rw [List.length_take]; omega) (by rw [List.length_take]; omega)).mono ?_
            rintro e w36 ⟨v, rfl, ho, hb⟩
            obtain ⟨Ab, cb, rfl⟩ := Kd.R_slice ho
            refine ⟨_, rfl, ?_⟩
            have B37 := hb
            have S38 := S35.call B37
            have HRan := Aside0.mk (R_below HRa.out B37)
            clear HRa
            have HRa := HRan
            clear HRan
            have HRb := Aside0.mk ho
            clear ho
            have HBo := S35.ext.size
            refine ⟨trivial, ?_⟩
            refine d_one (listed' := #[true, true, true, true, true, true, true, true, true, true, false, false, false]) 9 rfl (by kernel_rfl) (wn rfl) (by kernel_rfl) ?_
            refine e_store (vs := [.slice Aa ((l7.take 50).length) ca]) (cs' := [.int .i64 kd, .int .i64 fd, .int .i64 s0, .int .u32 s1, .bool b0, .slice A5 50 c5, .int .i64 s3, .slice Aa ((l7.take 50).length) ca]) (σ' := [⟨g6, true, .cells #[.int .i64 0, .int .i64 0, .int .i64 0, .int .u32 0, .bool false, .slice none 0 0, .int .i64 0, .slice none 0 0] 30 (0, 0)⟩, ⟨g2, true, .cells #[.int .i64 kd, .int .i64 fd, .int .i64 s0, .int .u32 s1, .bool b0, .slice A5 50 c5, .int .i64 s3, .slice Aa ((l7.take 50).length) ca] 30 (0, 0)⟩]) S38 rfl rfl rfl rfl sz_24 1 rfl (.inl rfl) rfl rfl rfl ?_
            intro w39 S40 E41
            have HRan := Aside0.mk (R_ext HRa.out E41 (S38.blk 1 rfl) (by decide))
            clear HRa
            have HRa := HRan
            clear HRan
            have HRbn := Aside0.mk (R_ext HRb.out E41 (S38.blk 1 rfl) (by decide))
            clear HRb
            have HRb := HRbn
            clear HRbn
            refine ⟨trivial, ?_⟩
            refine d_take (v := .pointer (some ⟨g2, 2, none⟩)) (listed' := #[true, true, true, true, true, true, true, true, true, true, true, false, false]) 10 rfl (by kernel_rfl) (by kernel_rfl) (by kernel_rfl) rfl (fun _ _ _ h => h) (wn rfl) (fun W hW => r_field fld_30_2 rfl rfl) trivial (by kernel_rfl) ?_
            refine d_take (v := .pointer (some ⟨g2, 4, none⟩)) (listed' := #[true, true, true, true, true, true, true, true, true, true, true, true, false]) 11 rfl (by kernel_rfl) (by kernel_rfl) (by kernel_rfl) rfl (fun _ _ _ h => h) (wn rfl) (fun W hW => r_field fld_28_2 rfl rfl) trivial (by kernel_rfl) ?_
            refine d_one (listed' := #[true, true, true, true, true, true, true, true, true, true, true, true, true]) 12 rfl (by kernel_rfl) (wn rfl) (by kernel_rfl) ?_
            refine e_store (vs := [.bool b0, .slice Ab ((l5.take 50).length) cb]) (cs' := [.int .i64 kd, .int .i64 fd, .int .i64 s0, .int .u32 s1, .bool b0, .slice Ab ((l5.take 50).length) cb, .int .i64 s3, .slice Aa ((l7.take 50).length) ca]) (σ' := [⟨g6, true, .cells #[.int .i64 0, .int .i64 0, .int .i64 0, .int .u32 0, .bool false, .slice none 0 0, .int .i64 0, .slice none 0 0] 30 (0, 0)⟩, ⟨g2, true, .cells #[.int .i64 kd, .int .i64 fd, .int .i64 s0, .int .u32 s1, .bool b0, .slice Ab ((l5.take 50).length) cb, .int .i64 s3, .slice Aa ((l7.take 50).length) ca] 30 (0, 0)⟩]) S40 rfl rfl rfl rfl sz_26 1 rfl (.inl rfl) rfl rfl rfl ?_
            intro w42 S43 E44
            have HRan := Aside0.mk (R_ext HRa.out E44 (S40.blk 1 rfl) (by decide))
            clear HRa
            have HRa := HRan
            clear HRan
            have HRbn := Aside0.mk (R_ext HRb.out E44 (S40.blk 1 rfl) (by decide))
            clear HRb
            have HRb := HRbn
            clear HRbn
            refine ⟨trivial, ?_⟩
            refine d_done (by kernel_rfl) ?_
            refine x_seq ?_
            refine s_seq ?_
            refine s_region ?_
            refine q_val (v := .agg #[.int .i64 kd, .int .i64 fd, .int .i64 s0, .int .u32 s1, .bool b0, .slice Ab ((l5.take 50).length) cb, .int .i64 s3, .slice Aa ((l7.take 50).length) ca]) (wn rfl) rfl (r_loadN (vs := [.int .i64 kd, .int .i64 fd, .int .i64 s0, .int .u32 s1, .bool b0, .slice Ab ((l5.take 50).length) cb, .int .i64 s3, .slice Aa ((l7.take 50).length) ca]) sz_30 rfl (S43.blk 1 rfl) rfl rfl) ?_
            refine q_of (wn rfl) ?_
            refine e_store (vs := [.int .i64 kd, .int .i64 fd, .int .i64 s0, .int .u32 s1, .bool b0, .slice Ab ((l5.take 50).length) cb, .int .i64 s3, .slice Aa ((l7.take 50).length) ca]) (cs' := [.int .i64 kd, .int .i64 fd, .int .i64 s0, .int .u32 s1, .bool b0, .slice Ab ((l5.take 50).length) cb, .int .i64 s3, .slice Aa ((l7.take 50).length) ca]) (σ' := [⟨g6, true, .cells #[.int .i64 kd, .int .i64 fd, .int .i64 s0, .int .u32 s1, .bool b0, .slice Ab ((l5.take 50).length) cb, .int .i64 s3, .slice Aa ((l7.take 50).length) ca] 30 (0, 0)⟩, ⟨g2, true, .cells #[.int .i64 kd, .int .i64 fd, .int .i64 s0, .int .u32 s1, .bool b0, .slice Ab ((l5.take 50).length) cb, .int .i64 s3, .slice Aa ((l7.take 50).length) ca] 30 (0, 0)⟩]) S43 rfl rfl rfl rfl sz_30 0 rfl (.inl rfl) rfl rfl rfl ?_
            intro w45 S46 E47
            have HRan := Aside0.mk (R_ext HRa.out E47 (S43.blk 0 rfl) (by decide))
            clear HRa
            have HRa := HRan
            clear HRan
            have HRbn := Aside0.mk (R_ext HRb.out E47 (S43.blk 0 rfl) (by decide))
            clear HRb
            have HRb := HRbn
            clear HRbn
            refine q_nil ?_
            refine x_seq ?_
            refine s_ret ?_
            refine t_retc (cs := [.int .i64 kd, .int .i64 fd, .int .i64 s0, .int .u32 s1, .bool b0, .slice Ab ((l5.take 50).length) cb, .int .i64 s3, .slice Aa ((l7.take 50).length) ca])  rfl rfl (S46.blk 0 rfl) sz_30 ?_
            have el7 : cut50 l7 = (l7.take 50) := by unfold cut50; first | rw [if_pos (by omega)] | rw [if_neg (by omega)]
            have el5 : cut50 l5 = (l5.take 50) := by unfold cut50; first | rw [if_pos (by omega)] | rw [if_neg (by omega)]
            rw [el7, el5]
            exact ⟨_, _, rfl, Kd.R_lower HRb.out HBo, HRa.out, S46.ext.below⟩
        · skip
          refine e_val (v := .agg #[.bool b0, .slice A5 50 c5]) rfl (r_loadN (vs := [.bool b0, .slice A5 50 c5]) sz_26 rfl (S20.blk 2 rfl) rfl rfl) ?_
          refine ⟨trivial, ?_⟩
          refine d_one (listed' := #[true, true, true, false, true, true, true, false, false, false, false, false, false]) 2 rfl (by kernel_rfl) (wn rfl) (by kernel_rfl) ?_
          refine e_val (v := .slice A7 50 c7) rfl (r_load1 sz_24 rfl (S20.cell 2 rfl rfl)) ?_
          refine ⟨trivial, ?_⟩
          refine d_one (listed' := #[true, true, true, true, true, true, true, false, false, false, false, false, false]) 3 rfl (by kernel_rfl) (wn rfl) (by kernel_rfl) ?_
          have hC48 : Kd.C (Kd.int .i64) w19 A7 50 (l7.take 50) := by have h_ := C_take (Kd.C_below HC7.out S20.ext.below) 50; rw [take50 (by omega)] at h_; exact h_
          obtain ⟨v48, w48, hr48, HRa48, E48⟩ := append_row (c := c7) 24 (empty_row (base := w.heap.size) (S20.blk 0 rfl) (S20.own _ (List.mem_of_getElem? (i := 0) rfl) rfl)) hC48 (by first | (simp; done) | (simp; omega)) (S20.ext.size)
          rw [List.nil_append] at HRa48
          obtain ⟨Aa, ca, rfl⟩ := Kd.R_slice HRa48
          refine e_val (v := .slice Aa (l7.take 50).length ca) rfl (r_append rfl rfl hr48) ?_
          obtain ⟨S48, F48⟩ := St_app S20 E48
          have HRa := Aside0.mk HRa48
          refine ⟨trivial, ?_⟩
          refine d_take (v := .pointer (some ⟨g2, 7, none⟩)) (listed' := #[true, true, true, true, true, true, true, false, true, false, false, false, false]) 8 rfl (by kernel_rfl) (by kernel_rfl) (by kernel_rfl) rfl (fun _ _ _ h => h) (wn rfl) (fun W hW => r_field fld_30_3 rfl rfl) trivial (by kernel_rfl) ?_
          refine d_one (listed' := #[true, true, true, true, true, true, true, true, true, false, false, false, false]) 7 rfl (by kernel_rfl) (wn rfl) (by kernel_rfl) ?_
          refine e_call (args := [.agg #[.bool b0, .slice A5 50 c5]]) Try.func38 (by kernel_rfl) rfl rfl ?_
          have hC5 := C_take (Kd.C_below HC5.out S48.ext.below) 50
          refine (Own_at b0 A5 c5 (l5.take 50) 50 (take50 (by omega)) _ hC5 (by rw [List.length_take]; omega) (by rw [List.length_take]; omega)).mono ?_
          rintro e w49 ⟨v, rfl, ho, hb⟩
          obtain ⟨Ab, cb, rfl⟩ := Kd.R_slice ho
          refine ⟨_, rfl, ?_⟩
          have B50 := hb
          have S51 := S48.call B50
          have HRan := Aside0.mk (R_below HRa.out B50)
          clear HRa
          have HRa := HRan
          clear HRan
          have HRb := Aside0.mk ho
          clear ho
          have HBo := S48.ext.size
          refine ⟨trivial, ?_⟩
          refine d_one (listed' := #[true, true, true, true, true, true, true, true, true, true, false, false, false]) 9 rfl (by kernel_rfl) (wn rfl) (by kernel_rfl) ?_
          refine e_store (vs := [.slice Aa ((l7.take 50).length) ca]) (cs' := [.int .i64 kd, .int .i64 fd, .int .i64 s0, .int .u32 s1, .bool b0, .slice A5 50 c5, .int .i64 s3, .slice Aa ((l7.take 50).length) ca]) (σ' := [⟨g6, true, .cells #[.int .i64 0, .int .i64 0, .int .i64 0, .int .u32 0, .bool false, .slice none 0 0, .int .i64 0, .slice none 0 0] 30 (0, 0)⟩, ⟨g2, true, .cells #[.int .i64 kd, .int .i64 fd, .int .i64 s0, .int .u32 s1, .bool b0, .slice A5 50 c5, .int .i64 s3, .slice Aa ((l7.take 50).length) ca] 30 (0, 0)⟩]) S51 rfl rfl rfl rfl sz_24 1 rfl (.inl rfl) rfl rfl rfl ?_
          intro w52 S53 E54
          have HRan := Aside0.mk (R_ext HRa.out E54 (S51.blk 1 rfl) (by decide))
          clear HRa
          have HRa := HRan
          clear HRan
          have HRbn := Aside0.mk (R_ext HRb.out E54 (S51.blk 1 rfl) (by decide))
          clear HRb
          have HRb := HRbn
          clear HRbn
          refine ⟨trivial, ?_⟩
          refine d_take (v := .pointer (some ⟨g2, 2, none⟩)) (listed' := #[true, true, true, true, true, true, true, true, true, true, true, false, false]) 10 rfl (by kernel_rfl) (by kernel_rfl) (by kernel_rfl) rfl (fun _ _ _ h => h) (wn rfl) (fun W hW => r_field fld_30_2 rfl rfl) trivial (by kernel_rfl) ?_
          refine d_take (v := .pointer (some ⟨g2, 4, none⟩)) (listed' := #[true, true, true, true, true, true, true, true, true, true, true, true, false]) 11 rfl (by kernel_rfl) (by kernel_rfl) (by kernel_rfl) rfl (fun _ _ _ h => h) (wn rfl) (fun W hW => r_field fld_28_2 rfl rfl) trivial (by kernel_rfl) ?_
          refine d_one (listed' := #[true, true, true, true, true, true, true, true, true, true, true, true, true]) 12 rfl (by kernel_rfl) (wn rfl) (by kernel_rfl) ?_
          refine e_store (vs := [.bool b0, .slice Ab ((l5.take 50).length) cb]) (cs' := [.int .i64 kd, .int .i64 fd, .int .i64 s0, .int .u32 s1, .bool b0, .slice Ab ((l5.take 50).length) cb, .int .i64 s3, .slice Aa ((l7.take 50).length) ca]) (σ' := [⟨g6, true, .cells #[.int .i64 0, .int .i64 0, .int .i64 0, .int .u32 0, .bool false, .slice none 0 0, .int .i64 0, .slice none 0 0] 30 (0, 0)⟩, ⟨g2, true, .cells #[.int .i64 kd, .int .i64 fd, .int .i64 s0, .int .u32 s1, .bool b0, .slice Ab ((l5.take 50).length) cb, .int .i64 s3, .slice Aa ((l7.take 50).length) ca] 30 (0, 0)⟩]) S53 rfl rfl rfl rfl sz_26 1 rfl (.inl rfl) rfl rfl rfl ?_
          intro w55 S56 E57
          have HRan := Aside0.mk (R_ext HRa.out E57 (S53.blk 1 rfl) (by decide))
          clear HRa
          have HRa := HRan
          clear HRan
          have HRbn := Aside0.mk (R_ext HRb.out E57 (S53.blk 1 rfl) (by decide))
          clear HRb
          have HRb := HRbn
          clear HRbn
          refine ⟨trivial, ?_⟩
          refine d_done (by kernel_rfl) ?_
          refine x_seq ?_
          refine s_seq ?_
          refine s_region ?_
          refine q_val (v := .agg #[.int .i64 kd, .int .i64 fd, .int .i64 s0, .int .u32 s1, .bool b0, .slice Ab ((l5.take 50).length) cb, .int .i64 s3, .slice Aa ((l7.take 50).length) ca]) (wn rfl) rfl (r_loadN (vs := [.int .i64 kd, .int .i64 fd, .int .i64 s0, .int .u32 s1, .bool b0, .slice Ab ((l5.take 50).length) cb, .int .i64 s3, .slice Aa ((l7.take 50).length) ca]) sz_30 rfl (S56.blk 1 rfl) rfl rfl) ?_
          refine q_of (wn rfl) ?_
          refine e_store (vs := [.int .i64 kd, .int .i64 fd, .int .i64 s0, .int .u32 s1, .bool b0, .slice Ab ((l5.take 50).length) cb, .int .i64 s3, .slice Aa ((l7.take 50).length) ca]) (cs' := [.int .i64 kd, .int .i64 fd, .int .i64 s0, .int .u32 s1, .bool b0, .slice Ab ((l5.take 50).length) cb, .int .i64 s3, .slice Aa ((l7.take 50).length) ca]) (σ' := [⟨g6, true, .cells #[.int .i64 kd, .int .i64 fd, .int .i64 s0, .int .u32 s1, .bool b0, .slice Ab ((l5.take 50).length) cb, .int .i64 s3, .slice Aa ((l7.take 50).length) ca] 30 (0, 0)⟩, ⟨g2, true, .cells #[.int .i64 kd, .int .i64 fd, .int .i64 s0, .int .u32 s1, .bool b0, .slice Ab ((l5.take 50).length) cb, .int .i64 s3, .slice Aa ((l7.take 50).length) ca] 30 (0, 0)⟩]) S56 rfl rfl rfl rfl sz_30 0 rfl (.inl rfl) rfl rfl rfl ?_
          intro w58 S59 E60
          have HRan := Aside0.mk (R_ext HRa.out E60 (S56.blk 0 rfl) (by decide))
          clear HRa
          have HRa := HRan
          clear HRan
          have HRbn := Aside0.mk (R_ext HRb.out E60 (S56.blk 0 rfl) (by decide))
          clear HRb
          have HRb := HRbn
          clear HRbn
          refine q_nil ?_
          refine x_seq ?_
          refine s_ret ?_
          refine t_retc (cs := [.int .i64 kd, .int .i64 fd, .int .i64 s0, .int .u32 s1, .bool b0, .slice Ab ((l5.take 50).length) cb, .int .i64 s3, .slice Aa ((l7.take 50).length) ca])  rfl rfl (S59.blk 0 rfl) sz_30 ?_
          have el7 : cut50 l7 = (l7.take 50) := by unfold cut50; first | rw [if_pos (by omega)] | rw [if_neg (by omega)]
          have el5 : cut50 l5 = (l5.take 50) := by unfold cut50; first | rw [if_pos (by omega)] | rw [if_neg (by omega)]
          rw [el7, el5]
          exact ⟨_, _, rfl, Kd.R_lower HRb.out HBo, HRa.out, S59.ext.below⟩
      · skip
        refine e_val (v := .slice A7 50 c7) rfl (r_load1 sz_24 rfl (S16.cell 1 rfl rfl)) ?_
        refine ⟨trivial, ?_⟩
        refine d_two (listed' := #[true, true, true, false, true, true, false, false, false, false, false, false, false]) (listed'' := #[false, true, true, false, true, true, true, false, false, false, false, false, false]) 0 6 rfl rfl (by kernel_rfl) (wn rfl) (wn rfl) (by kernel_rfl) (by kernel_rfl) ?_ ?_
        · skip
          refine e_new (vf := fun g => .slice (some ⟨g, 0, none⟩) 0 0) (ob := .cells #[] 3) rfl S16 (r_buildSlice (ps := []) rfl (by kernel_rfl)) ?_
          intro g61 w62 hg61 S63 B64
          refine ⟨trivial, ?_⟩
          refine d_two (listed' := #[true, true, true, true, true, true, false, false, false, false, false, false, false]) (listed'' := #[true, true, true, false, true, true, true, false, false, false, false, false, false]) 3 6 rfl rfl (by kernel_rfl) (wn rfl) (wn rfl) (by kernel_rfl) (by kernel_rfl) ?_ ?_
          · skip
            have hC65 : Kd.C (Kd.int .i64) w62 A7 50 (l7.take 50) := by have h_ := C_take (Kd.C_below HC7.out S63.ext.below) 50; rw [take50 (by omega)] at h_; exact h_
            obtain ⟨v65, w65, hr65, HRa65, E65⟩ := append_row (c := c7) 24 (empty_row (base := w.heap.size) (S63.blk 0 rfl) (S63.own _ (List.mem_of_getElem? (i := 0) rfl) rfl)) hC65 (by first | (simp; done) | (simp; omega)) (S63.ext.size)
            rw [List.nil_append] at HRa65
            obtain ⟨Aa, ca, rfl⟩ := Kd.R_slice HRa65
            refine e_val (v := .slice Aa (l7.take 50).length ca) rfl (r_append rfl rfl hr65) ?_
            obtain ⟨S65, F65⟩ := St_app S63 E65
            have HRa := Aside0.mk HRa65
            refine ⟨trivial, ?_⟩
            refine d_one (listed' := #[true, true, true, true, true, true, true, false, false, false, false, false, false]) 6 rfl (by kernel_rfl) (wn rfl) (by kernel_rfl) ?_
            refine e_val (v := .agg #[.bool b0, .slice A5 50 c5]) rfl (r_loadN (vs := [.bool b0, .slice A5 50 c5]) sz_26 rfl (S65.blk 1 rfl) rfl rfl) ?_
            refine ⟨trivial, ?_⟩
            refine d_take (v := .pointer (some ⟨g2, 7, none⟩)) (listed' := #[true, true, true, true, true, true, true, false, true, false, false, false, false]) 8 rfl (by kernel_rfl) (by kernel_rfl) (by kernel_rfl) rfl (fun _ _ _ h => h) (wn rfl) (fun W hW => r_field fld_30_3 rfl rfl) trivial (by kernel_rfl) ?_
            refine d_one (listed' := #[true, true, true, true, true, true, true, true, true, false, false, false, false]) 7 rfl (by kernel_rfl) (wn rfl) (by kernel_rfl) ?_
            refine e_call (args := [.agg #[.bool b0, .slice A5 50 c5]]) Try.func38 (by kernel_rfl) rfl rfl ?_
            have hC5 := C_take (Kd.C_below HC5.out S65.ext.below) 50
            refine (Own_at b0 A5 c5 (l5.take 50) 50 (take50 (by omega)) _ hC5 (by rw [List.length_take]; omega) (by rw [List.length_take]; omega)).mono ?_
            rintro e w66 ⟨v, rfl, ho, hb⟩
            obtain ⟨Ab, cb, rfl⟩ := Kd.R_slice ho
            refine ⟨_, rfl, ?_⟩
            have B67 := hb
            have S68 := S65.call B67
            have HRan := Aside0.mk (R_below HRa.out B67)
            clear HRa
            have HRa := HRan
            clear HRan
            have HRb := Aside0.mk ho
            clear ho
            have HBo := S65.ext.size
            refine ⟨trivial, ?_⟩
            refine d_one (listed' := #[true, true, true, true, true, true, true, true, true, true, false, false, false]) 9 rfl (by kernel_rfl) (wn rfl) (by kernel_rfl) ?_
            refine e_store (vs := [.slice Aa ((l7.take 50).length) ca]) (cs' := [.int .i64 kd, .int .i64 fd, .int .i64 s0, .int .u32 s1, .bool b0, .slice A5 50 c5, .int .i64 s3, .slice Aa ((l7.take 50).length) ca]) (σ' := [⟨g6, true, .cells #[.int .i64 0, .int .i64 0, .int .i64 0, .int .u32 0, .bool false, .slice none 0 0, .int .i64 0, .slice none 0 0] 30 (0, 0)⟩, ⟨g2, true, .cells #[.int .i64 kd, .int .i64 fd, .int .i64 s0, .int .u32 s1, .bool b0, .slice A5 50 c5, .int .i64 s3, .slice Aa ((l7.take 50).length) ca] 30 (0, 0)⟩]) S68 rfl rfl rfl rfl sz_24 1 rfl (.inl rfl) rfl rfl rfl ?_
            intro w69 S70 E71
            have HRan := Aside0.mk (R_ext HRa.out E71 (S68.blk 1 rfl) (by decide))
            clear HRa
            have HRa := HRan
            clear HRan
            have HRbn := Aside0.mk (R_ext HRb.out E71 (S68.blk 1 rfl) (by decide))
            clear HRb
            have HRb := HRbn
            clear HRbn
            refine ⟨trivial, ?_⟩
            refine d_take (v := .pointer (some ⟨g2, 2, none⟩)) (listed' := #[true, true, true, true, true, true, true, true, true, true, true, false, false]) 10 rfl (by kernel_rfl) (by kernel_rfl) (by kernel_rfl) rfl (fun _ _ _ h => h) (wn rfl) (fun W hW => r_field fld_30_2 rfl rfl) trivial (by kernel_rfl) ?_
            refine d_take (v := .pointer (some ⟨g2, 4, none⟩)) (listed' := #[true, true, true, true, true, true, true, true, true, true, true, true, false]) 11 rfl (by kernel_rfl) (by kernel_rfl) (by kernel_rfl) rfl (fun _ _ _ h => h) (wn rfl) (fun W hW => r_field fld_28_2 rfl rfl) trivial (by kernel_rfl) ?_
            refine d_one (listed' := #[true, true, true, true, true, true, true, true, true, true, true, true, true]) 12 rfl (by kernel_rfl) (wn rfl) (by kernel_rfl) ?_
            refine e_store (vs := [.bool b0, .slice Ab ((l5.take 50).length) cb]) (cs' := [.int .i64 kd, .int .i64 fd, .int .i64 s0, .int .u32 s1, .bool b0, .slice Ab ((l5.take 50).length) cb, .int .i64 s3, .slice Aa ((l7.take 50).length) ca]) (σ' := [⟨g6, true, .cells #[.int .i64 0, .int .i64 0, .int .i64 0, .int .u32 0, .bool false, .slice none 0 0, .int .i64 0, .slice none 0 0] 30 (0, 0)⟩, ⟨g2, true, .cells #[.int .i64 kd, .int .i64 fd, .int .i64 s0, .int .u32 s1, .bool b0, .slice Ab ((l5.take 50).length) cb, .int .i64 s3, .slice Aa ((l7.take 50).length) ca] 30 (0, 0)⟩]) S70 rfl rfl rfl rfl sz_26 1 rfl (.inl rfl) rfl rfl rfl ?_
            intro w72 S73 E74
            have HRan := Aside0.mk (R_ext HRa.out E74 (S70.blk 1 rfl) (by decide))
            clear HRa
            have HRa := HRan
            clear HRan
            have HRbn := Aside0.mk (R_ext HRb.out E74 (S70.blk 1 rfl) (by decide))
            clear HRb
            have HRb := HRbn
            clear HRbn
            refine ⟨trivial, ?_⟩
            refine d_done (by kernel_rfl) ?_
            refine x_seq ?_
            refine s_seq ?_
            refine s_region ?_
            refine q_val (v := .agg #[.int .i64 kd, .int .i64 fd, .int .i64 s0, .int .u32 s1, .bool b0, .slice Ab ((l5.take 50).length) cb, .int .i64 s3, .slice Aa ((l7.take 50).length) ca]) (wn rfl) rfl (r_loadN (vs := [.int .i64 kd, .int .i64 fd, .int .i64 s0, .int .u32 s1, .bool b0, .slice Ab ((l5.take 50).length) cb, .int .i64 s3, .slice Aa ((l7.take 50).length) ca]) sz_30 rfl (S73.blk 1 rfl) rfl rfl) ?_
            refine q_of (wn rfl) ?_
            refine e_store (vs := [.int .i64 kd, .int .i64 fd, .int .i64 s0, .int .u32 s1, .bool b0, .slice Ab ((l5.take 50).length) cb, .int .i64 s3, .slice Aa ((l7.take 50).length) ca]) (cs' := [.int .i64 kd, .int .i64 fd, .int .i64 s0, .int .u32 s1, .bool b0, .slice Ab ((l5.take 50).length) cb, .int .i64 s3, .slice Aa ((l7.take 50).length) ca]) (σ' := [⟨g6, true, .cells #[.int .i64 kd, .int .i64 fd, .int .i64 s0, .int .u32 s1, .bool b0, .slice Ab ((l5.take 50).length) cb, .int .i64 s3, .slice Aa ((l7.take 50).length) ca] 30 (0, 0)⟩, ⟨g2, true, .cells #[.int .i64 kd, .int .i64 fd, .int .i64 s0, .int .u32 s1, .bool b0, .slice Ab ((l5.take 50).length) cb, .int .i64 s3, .slice Aa ((l7.take 50).length) ca] 30 (0, 0)⟩]) S73 rfl rfl rfl rfl sz_30 0 rfl (.inl rfl) rfl rfl rfl ?_
            intro w75 S76 E77
            have HRan := Aside0.mk (R_ext HRa.out E77 (S73.blk 0 rfl) (by decide))
            clear HRa
            have HRa := HRan
            clear HRan
            have HRbn := Aside0.mk (R_ext HRb.out E77 (S73.blk 0 rfl) (by decide))
            clear HRb
            have HRb := HRbn
            clear HRbn
            refine q_nil ?_
            refine x_seq ?_
            refine s_ret ?_
            refine t_retc (cs := [.int .i64 kd, .int .i64 fd, .int .i64 s0, .int .u32 s1, .bool b0, .slice Ab ((l5.take 50).length) cb, .int .i64 s3, .slice Aa ((l7.take 50).length) ca])  rfl rfl (S76.blk 0 rfl) sz_30 ?_
            have el7 : cut50 l7 = (l7.take 50) := by unfold cut50; first | rw [if_pos (by omega)] | rw [if_neg (by omega)]
            have el5 : cut50 l5 = (l5.take 50) := by unfold cut50; first | rw [if_pos (by omega)] | rw [if_neg (by omega)]
            rw [el7, el5]
            exact ⟨_, _, rfl, Kd.R_lower HRb.out HBo, HRa.out, S76.ext.below⟩
          · skip
            refine e_val (v := .agg #[.bool b0, .slice A5 50 c5]) rfl (r_loadN (vs := [.bool b0, .slice A5 50 c5]) sz_26 rfl (S63.blk 2 rfl) rfl rfl) ?_
            refine ⟨trivial, ?_⟩
            refine d_one (listed' := #[true, true, true, true, true, true, true, false, false, false, false, false, false]) 3 rfl (by kernel_rfl) (wn rfl) (by kernel_rfl) ?_
            have hC78 : Kd.C (Kd.int .i64) w62 A7 50 (l7.take 50) := by have h_ := C_take (Kd.C_below HC7.out S63.ext.below) 50; rw [take50 (by omega)] at h_; exact h_
            obtain ⟨v78, w78, hr78, HRa78, E78⟩ := append_row (c := c7) 24 (empty_row (base := w.heap.size) (S63.blk 0 rfl) (S63.own _ (List.mem_of_getElem? (i := 0) rfl) rfl)) hC78 (by first | (simp; done) | (simp; omega)) (S63.ext.size)
            rw [List.nil_append] at HRa78
            obtain ⟨Aa, ca, rfl⟩ := Kd.R_slice HRa78
            refine e_val (v := .slice Aa (l7.take 50).length ca) rfl (r_append rfl rfl hr78) ?_
            obtain ⟨S78, F78⟩ := St_app S63 E78
            have HRa := Aside0.mk HRa78
            refine ⟨trivial, ?_⟩
            refine d_take (v := .pointer (some ⟨g2, 7, none⟩)) (listed' := #[true, true, true, true, true, true, true, false, true, false, false, false, false]) 8 rfl (by kernel_rfl) (by kernel_rfl) (by kernel_rfl) rfl (fun _ _ _ h => h) (wn rfl) (fun W hW => r_field fld_30_3 rfl rfl) trivial (by kernel_rfl) ?_
            refine d_one (listed' := #[true, true, true, true, true, true, true, true, true, false, false, false, false]) 7 rfl (by kernel_rfl) (wn rfl) (by kernel_rfl) ?_
            refine e_call (args := [.agg #[.bool b0, .slice A5 50 c5]]) Try.func38 (by kernel_rfl) rfl rfl ?_
            have hC5 := C_take (Kd.C_below HC5.out S78.ext.below) 50
            refine (Own_at b0 A5 c5 (l5.take 50) 50 (take50 (by omega)) _ hC5 (by rw [List.length_take]; omega) (by rw [List.length_take]; omega)).mono ?_
            rintro e w79 ⟨v, rfl, ho, hb⟩
            obtain ⟨Ab, cb, rfl⟩ := Kd.R_slice ho
            refine ⟨_, rfl, ?_⟩
            have B80 := hb
            have S81 := S78.call B80
            have HRan := Aside0.mk (R_below HRa.out B80)
            clear HRa
            have HRa := HRan
            clear HRan
            have HRb := Aside0.mk ho
            clear ho
            have HBo := S78.ext.size
            refine ⟨trivial, ?_⟩
            refine d_one (listed' := #[true, true, true, true, true, true, true, true, true, true, false, false, false]) 9 rfl (by kernel_rfl) (wn rfl) (by kernel_rfl) ?_
            refine e_store (vs := [.slice Aa ((l7.take 50).length) ca]) (cs' := [.int .i64 kd, .int .i64 fd, .int .i64 s0, .int .u32 s1, .bool b0, .slice A5 50 c5, .int .i64 s3, .slice Aa ((l7.take 50).length) ca]) (σ' := [⟨g6, true, .cells #[.int .i64 0, .int .i64 0, .int .i64 0, .int .u32 0, .bool false, .slice none 0 0, .int .i64 0, .slice none 0 0] 30 (0, 0)⟩, ⟨g2, true, .cells #[.int .i64 kd, .int .i64 fd, .int .i64 s0, .int .u32 s1, .bool b0, .slice A5 50 c5, .int .i64 s3, .slice Aa ((l7.take 50).length) ca] 30 (0, 0)⟩]) S81 rfl rfl rfl rfl sz_24 1 rfl (.inl rfl) rfl rfl rfl ?_
            intro w82 S83 E84
            have HRan := Aside0.mk (R_ext HRa.out E84 (S81.blk 1 rfl) (by decide))
            clear HRa
            have HRa := HRan
            clear HRan
            have HRbn := Aside0.mk (R_ext HRb.out E84 (S81.blk 1 rfl) (by decide))
            clear HRb
            have HRb := HRbn
            clear HRbn
            refine ⟨trivial, ?_⟩
            refine d_take (v := .pointer (some ⟨g2, 2, none⟩)) (listed' := #[true, true, true, true, true, true, true, true, true, true, true, false, false]) 10 rfl (by kernel_rfl) (by kernel_rfl) (by kernel_rfl) rfl (fun _ _ _ h => h) (wn rfl) (fun W hW => r_field fld_30_2 rfl rfl) trivial (by kernel_rfl) ?_
            refine d_take (v := .pointer (some ⟨g2, 4, none⟩)) (listed' := #[true, true, true, true, true, true, true, true, true, true, true, true, false]) 11 rfl (by kernel_rfl) (by kernel_rfl) (by kernel_rfl) rfl (fun _ _ _ h => h) (wn rfl) (fun W hW => r_field fld_28_2 rfl rfl) trivial (by kernel_rfl) ?_
            refine d_one (listed' := #[true, true, true, true, true, true, true, true, true, true, true, true, true]) 12 rfl (by kernel_rfl) (wn rfl) (by kernel_rfl) ?_
            refine e_store (vs := [.bool b0, .slice Ab ((l5.take 50).length) cb]) (cs' := [.int .i64 kd, .int .i64 fd, .int .i64 s0, .int .u32 s1, .bool b0, .slice Ab ((l5.take 50).length) cb, .int .i64 s3, .slice Aa ((l7.take 50).length) ca]) (σ' := [⟨g6, true, .cells #[.int .i64 0, .int .i64 0, .int .i64 0, .int .u32 0, .bool false, .slice none 0 0, .int .i64 0, .slice none 0 0] 30 (0, 0)⟩, ⟨g2, true, .cells #[.int .i64 kd, .int .i64 fd, .int .i64 s0, .int .u32 s1, .bool b0, .slice Ab ((l5.take 50).length) cb, .int .i64 s3, .slice Aa ((l7.take 50).length) ca] 30 (0, 0)⟩]) S83 rfl rfl rfl rfl sz_26 1 rfl (.inl rfl) rfl rfl rfl ?_
            intro w85 S86 E87
            have HRan := Aside0.mk (R_ext HRa.out E87 (S83.blk 1 rfl) (by decide))
            clear HRa
            have HRa := HRan
            clear HRan
            have HRbn := Aside0.mk (R_ext HRb.out E87 (S83.blk 1 rfl) (by decide))
            clear HRb
            have HRb := HRbn
            clear HRbn
            refine ⟨trivial, ?_⟩
            refine d_done (by kernel_rfl) ?_
            refine x_seq ?_
            refine s_seq ?_
            refine s_region ?_
            refine q_val (v := .agg #[.int .i64 kd, .int .i64 fd, .int .i64 s0, .int .u32 s1, .bool b0, .slice Ab ((l5.take 50).length) cb, .int .i64 s3, .slice Aa ((l7.take 50).length) ca]) (wn rfl) rfl (r_loadN (vs := [.int .i64 kd, .int .i64 fd, .int .i64 s0, .int .u32 s1, .bool b0, .slice Ab ((l5.take 50).length) cb, .int .i64 s3, .slice Aa ((l7.take 50).length) ca]) sz_30 rfl (S86.blk 1 rfl) rfl rfl) ?_
            refine q_of (wn rfl) ?_
            refine e_store (vs := [.int .i64 kd, .int .i64 fd, .int .i64 s0, .int .u32 s1, .bool b0, .slice Ab ((l5.take 50).length) cb, .int .i64 s3, .slice Aa ((l7.take 50).length) ca]) (cs' := [.int .i64 kd, .int .i64 fd, .int .i64 s0, .int .u32 s1, .bool b0, .slice Ab ((l5.take 50).length) cb, .int .i64 s3, .slice Aa ((l7.take 50).length) ca]) (σ' := [⟨g6, true, .cells #[.int .i64 kd, .int .i64 fd, .int .i64 s0, .int .u32 s1, .bool b0, .slice Ab ((l5.take 50).length) cb, .int .i64 s3, .slice Aa ((l7.take 50).length) ca] 30 (0, 0)⟩, ⟨g2, true, .cells #[.int .i64 kd, .int .i64 fd, .int .i64 s0, .int .u32 s1, .bool b0, .slice Ab ((l5.take 50).length) cb, .int .i64 s3, .slice Aa ((l7.take 50).length) ca] 30 (0, 0)⟩]) S86 rfl rfl rfl rfl sz_30 0 rfl (.inl rfl) rfl rfl rfl ?_
            intro w88 S89 E90
            have HRan := Aside0.mk (R_ext HRa.out E90 (S86.blk 0 rfl) (by decide))
            clear HRa
            have HRa := HRan
            clear HRan
            have HRbn := Aside0.mk (R_ext HRb.out E90 (S86.blk 0 rfl) (by decide))
            clear HRb
            have HRb := HRbn
            clear HRbn
            refine q_nil ?_
            refine x_seq ?_
            refine s_ret ?_
            refine t_retc (cs := [.int .i64 kd, .int .i64 fd, .int .i64 s0, .int .u32 s1, .bool b0, .slice Ab ((l5.take 50).length) cb, .int .i64 s3, .slice Aa ((l7.take 50).length) ca])  rfl rfl (S89.blk 0 rfl) sz_30 ?_
            have el7 : cut50 l7 = (l7.take 50) := by unfold cut50; first | rw [if_pos (by omega)] | rw [if_neg (by omega)]
            have el5 : cut50 l5 = (l5.take 50) := by unfold cut50; first | rw [if_pos (by omega)] | rw [if_neg (by omega)]
            rw [el7, el5]
            exact ⟨_, _, rfl, Kd.R_lower HRb.out HBo, HRa.out, S89.ext.below⟩
        · skip
          refine e_val (v := .agg #[.bool b0, .slice A5 50 c5]) rfl (r_loadN (vs := [.bool b0, .slice A5 50 c5]) sz_26 rfl (S16.blk 1 rfl) rfl rfl) ?_
          refine ⟨trivial, ?_⟩
          refine d_one (listed' := #[true, true, true, false, true, true, true, false, false, false, false, false, false]) 0 rfl (by kernel_rfl) (wn rfl) (by kernel_rfl) ?_
          refine e_new (vf := fun g => .slice (some ⟨g, 0, none⟩) 0 0) (ob := .cells #[] 3) rfl S16 (r_buildSlice (ps := []) rfl (by kernel_rfl)) ?_
          intro g91 w92 hg91 S93 B94
          refine ⟨trivial, ?_⟩
          refine d_one (listed' := #[true, true, true, true, true, true, true, false, false, false, false, false, false]) 3 rfl (by kernel_rfl) (wn rfl) (by kernel_rfl) ?_
          have hC95 : Kd.C (Kd.int .i64) w92 A7 50 (l7.take 50) := by have h_ := C_take (Kd.C_below HC7.out S93.ext.below) 50; rw [take50 (by omega)] at h_; exact h_
          obtain ⟨v95, w95, hr95, HRa95, E95⟩ := append_row (c := c7) 24 (empty_row (base := w.heap.size) (S93.blk 0 rfl) (S93.own _ (List.mem_of_getElem? (i := 0) rfl) rfl)) hC95 (by first | (simp; done) | (simp; omega)) (S93.ext.size)
          rw [List.nil_append] at HRa95
          obtain ⟨Aa, ca, rfl⟩ := Kd.R_slice HRa95
          refine e_val (v := .slice Aa (l7.take 50).length ca) rfl (r_append rfl rfl hr95) ?_
          obtain ⟨S95, F95⟩ := St_app S93 E95
          have HRa := Aside0.mk HRa95
          refine ⟨trivial, ?_⟩
          refine d_take (v := .pointer (some ⟨g2, 7, none⟩)) (listed' := #[true, true, true, true, true, true, true, false, true, false, false, false, false]) 8 rfl (by kernel_rfl) (by kernel_rfl) (by kernel_rfl) rfl (fun _ _ _ h => h) (wn rfl) (fun W hW => r_field fld_30_3 rfl rfl) trivial (by kernel_rfl) ?_
          refine d_one (listed' := #[true, true, true, true, true, true, true, true, true, false, false, false, false]) 7 rfl (by kernel_rfl) (wn rfl) (by kernel_rfl) ?_
          refine e_call (args := [.agg #[.bool b0, .slice A5 50 c5]]) Try.func38 (by kernel_rfl) rfl rfl ?_
          have hC5 := C_take (Kd.C_below HC5.out S95.ext.below) 50
          refine (Own_at b0 A5 c5 (l5.take 50) 50 (take50 (by omega)) _ hC5 (by rw [List.length_take]; omega) (by rw [List.length_take]; omega)).mono ?_
          rintro e w96 ⟨v, rfl, ho, hb⟩
          obtain ⟨Ab, cb, rfl⟩ := Kd.R_slice ho
          refine ⟨_, rfl, ?_⟩
          have B97 := hb
          have S98 := S95.call B97
          have HRan := Aside0.mk (R_below HRa.out B97)
          clear HRa
          have HRa := HRan
          clear HRan
          have HRb := Aside0.mk ho
          clear ho
          have HBo := S95.ext.size
          refine ⟨trivial, ?_⟩
          refine d_one (listed' := #[true, true, true, true, true, true, true, true, true, true, false, false, false]) 9 rfl (by kernel_rfl) (wn rfl) (by kernel_rfl) ?_
          refine e_store (vs := [.slice Aa ((l7.take 50).length) ca]) (cs' := [.int .i64 kd, .int .i64 fd, .int .i64 s0, .int .u32 s1, .bool b0, .slice A5 50 c5, .int .i64 s3, .slice Aa ((l7.take 50).length) ca]) (σ' := [⟨g6, true, .cells #[.int .i64 0, .int .i64 0, .int .i64 0, .int .u32 0, .bool false, .slice none 0 0, .int .i64 0, .slice none 0 0] 30 (0, 0)⟩, ⟨g2, true, .cells #[.int .i64 kd, .int .i64 fd, .int .i64 s0, .int .u32 s1, .bool b0, .slice A5 50 c5, .int .i64 s3, .slice Aa ((l7.take 50).length) ca] 30 (0, 0)⟩]) S98 rfl rfl rfl rfl sz_24 1 rfl (.inl rfl) rfl rfl rfl ?_
          intro w99 S100 E101
          have HRan := Aside0.mk (R_ext HRa.out E101 (S98.blk 1 rfl) (by decide))
          clear HRa
          have HRa := HRan
          clear HRan
          have HRbn := Aside0.mk (R_ext HRb.out E101 (S98.blk 1 rfl) (by decide))
          clear HRb
          have HRb := HRbn
          clear HRbn
          refine ⟨trivial, ?_⟩
          refine d_take (v := .pointer (some ⟨g2, 2, none⟩)) (listed' := #[true, true, true, true, true, true, true, true, true, true, true, false, false]) 10 rfl (by kernel_rfl) (by kernel_rfl) (by kernel_rfl) rfl (fun _ _ _ h => h) (wn rfl) (fun W hW => r_field fld_30_2 rfl rfl) trivial (by kernel_rfl) ?_
          refine d_take (v := .pointer (some ⟨g2, 4, none⟩)) (listed' := #[true, true, true, true, true, true, true, true, true, true, true, true, false]) 11 rfl (by kernel_rfl) (by kernel_rfl) (by kernel_rfl) rfl (fun _ _ _ h => h) (wn rfl) (fun W hW => r_field fld_28_2 rfl rfl) trivial (by kernel_rfl) ?_
          refine d_one (listed' := #[true, true, true, true, true, true, true, true, true, true, true, true, true]) 12 rfl (by kernel_rfl) (wn rfl) (by kernel_rfl) ?_
          refine e_store (vs := [.bool b0, .slice Ab ((l5.take 50).length) cb]) (cs' := [.int .i64 kd, .int .i64 fd, .int .i64 s0, .int .u32 s1, .bool b0, .slice Ab ((l5.take 50).length) cb, .int .i64 s3, .slice Aa ((l7.take 50).length) ca]) (σ' := [⟨g6, true, .cells #[.int .i64 0, .int .i64 0, .int .i64 0, .int .u32 0, .bool false, .slice none 0 0, .int .i64 0, .slice none 0 0] 30 (0, 0)⟩, ⟨g2, true, .cells #[.int .i64 kd, .int .i64 fd, .int .i64 s0, .int .u32 s1, .bool b0, .slice Ab ((l5.take 50).length) cb, .int .i64 s3, .slice Aa ((l7.take 50).length) ca] 30 (0, 0)⟩]) S100 rfl rfl rfl rfl sz_26 1 rfl (.inl rfl) rfl rfl rfl ?_
          intro w102 S103 E104
          have HRan := Aside0.mk (R_ext HRa.out E104 (S100.blk 1 rfl) (by decide))
          clear HRa
          have HRa := HRan
          clear HRan
          have HRbn := Aside0.mk (R_ext HRb.out E104 (S100.blk 1 rfl) (by decide))
          clear HRb
          have HRb := HRbn
          clear HRbn
          refine ⟨trivial, ?_⟩
          refine d_done (by kernel_rfl) ?_
          refine x_seq ?_
          refine s_seq ?_
          refine s_region ?_
          refine q_val (v := .agg #[.int .i64 kd, .int .i64 fd, .int .i64 s0, .int .u32 s1, .bool b0, .slice Ab ((l5.take 50).length) cb, .int .i64 s3, .slice Aa ((l7.take 50).length) ca]) (wn rfl) rfl (r_loadN (vs := [.int .i64 kd, .int .i64 fd, .int .i64 s0, .int .u32 s1, .bool b0, .slice Ab ((l5.take 50).length) cb, .int .i64 s3, .slice Aa ((l7.take 50).length) ca]) sz_30 rfl (S103.blk 1 rfl) rfl rfl) ?_
          refine q_of (wn rfl) ?_
          refine e_store (vs := [.int .i64 kd, .int .i64 fd, .int .i64 s0, .int .u32 s1, .bool b0, .slice Ab ((l5.take 50).length) cb, .int .i64 s3, .slice Aa ((l7.take 50).length) ca]) (cs' := [.int .i64 kd, .int .i64 fd, .int .i64 s0, .int .u32 s1, .bool b0, .slice Ab ((l5.take 50).length) cb, .int .i64 s3, .slice Aa ((l7.take 50).length) ca]) (σ' := [⟨g6, true, .cells #[.int .i64 kd, .int .i64 fd, .int .i64 s0, .int .u32 s1, .bool b0, .slice Ab ((l5.take 50).length) cb, .int .i64 s3, .slice Aa ((l7.take 50).length) ca] 30 (0, 0)⟩, ⟨g2, true, .cells #[.int .i64 kd, .int .i64 fd, .int .i64 s0, .int .u32 s1, .bool b0, .slice Ab ((l5.take 50).length) cb, .int .i64 s3, .slice Aa ((l7.take 50).length) ca] 30 (0, 0)⟩]) S103 rfl rfl rfl rfl sz_30 0 rfl (.inl rfl) rfl rfl rfl ?_
          intro w105 S106 E107
          have HRan := Aside0.mk (R_ext HRa.out E107 (S103.blk 0 rfl) (by decide))
          clear HRa
          have HRa := HRan
          clear HRan
          have HRbn := Aside0.mk (R_ext HRb.out E107 (S103.blk 0 rfl) (by decide))
          clear HRb
          have HRb := HRbn
          clear HRbn
          refine q_nil ?_
          refine x_seq ?_
          refine s_ret ?_
          refine t_retc (cs := [.int .i64 kd, .int .i64 fd, .int .i64 s0, .int .u32 s1, .bool b0, .slice Ab ((l5.take 50).length) cb, .int .i64 s3, .slice Aa ((l7.take 50).length) ca])  rfl rfl (S106.blk 0 rfl) sz_30 ?_
          have el7 : cut50 l7 = (l7.take 50) := by unfold cut50; first | rw [if_pos (by omega)] | rw [if_neg (by omega)]
          have el5 : cut50 l5 = (l5.take 50) := by unfold cut50; first | rw [if_pos (by omega)] | rw [if_neg (by omega)]
          rw [el7, el5]
          exact ⟨_, _, rfl, Kd.R_lower HRb.out HBo, HRa.out, S106.ext.below⟩
      · skip
        refine e_val (v := .agg #[.bool b0, .slice A5 50 c5]) rfl (r_loadN (vs := [.bool b0, .slice A5 50 c5]) sz_26 rfl (S16.blk 1 rfl) rfl rfl) ?_
        refine ⟨trivial, ?_⟩
        refine d_two (listed' := #[true, true, false, false, true, true, true, false, false, false, false, false, false]) (listed'' := #[false, true, true, false, true, true, true, false, false, false, false, false, false]) 0 2 rfl rfl (by kernel_rfl) (wn rfl) (wn rfl) (by kernel_rfl) (by kernel_rfl) ?_ ?_
        · skip
          refine e_new (vf := fun g => .slice (some ⟨g, 0, none⟩) 0 0) (ob := .cells #[] 3) rfl S16 (r_buildSlice (ps := []) rfl (by kernel_rfl)) ?_
          intro g108 w109 hg108 S110 B111
          refine ⟨trivial, ?_⟩
          refine d_one (listed' := #[true, true, true, false, true, true, true, false, false, false, false, false, false]) 2 rfl (by kernel_rfl) (wn rfl) (by kernel_rfl) ?_
          refine e_val (v := .slice A7 50 c7) rfl (r_load1 sz_24 rfl (S110.cell 2 rfl rfl)) ?_
          refine ⟨trivial, ?_⟩
          refine d_one (listed' := #[true, true, true, true, true, true, true, false, false, false, false, false, false]) 3 rfl (by kernel_rfl) (wn rfl) (by kernel_rfl) ?_
          have hC112 : Kd.C (Kd.int .i64) w109 A7 50 (l7.take 50) := by have h_ := C_take (Kd.C_below HC7.out S110.ext.below) 50; rw [take50 (by omega)] at h_; exact h_
          obtain ⟨v112, w112, hr112, HRa112, E112⟩ := append_row (c := c7) 24 (empty_row (base := w.heap.size) (S110.blk 0 rfl) (S110.own _ (List.mem_of_getElem? (i := 0) rfl) rfl)) hC112 (by first | (simp; done) | (simp; omega)) (S110.ext.size)
          rw [List.nil_append] at HRa112
          obtain ⟨Aa, ca, rfl⟩ := Kd.R_slice HRa112
          refine e_val (v := .slice Aa (l7.take 50).length ca) rfl (r_append rfl rfl hr112) ?_
          obtain ⟨S112, F112⟩ := St_app S110 E112
          have HRa := Aside0.mk HRa112
          refine ⟨trivial, ?_⟩
          refine d_take (v := .pointer (some ⟨g2, 7, none⟩)) (listed' := #[true, true, true, true, true, true, true, false, true, false, false, false, false]) 8 rfl (by kernel_rfl) (by kernel_rfl) (by kernel_rfl) rfl (fun _ _ _ h => h) (wn rfl) (fun W hW => r_field fld_30_3 rfl rfl) trivial (by kernel_rfl) ?_
          refine d_one (listed' := #[true, true, true, true, true, true, true, true, true, false, false, false, false]) 7 rfl (by kernel_rfl) (wn rfl) (by kernel_rfl) ?_
          refine e_call (args := [.agg #[.bool b0, .slice A5 50 c5]]) Try.func38 (by kernel_rfl) rfl rfl ?_
          have hC5 := C_take (Kd.C_below HC5.out S112.ext.below) 50
          refine (Own_at b0 A5 c5 (l5.take 50) 50 (take50 (by omega)) _ hC5 (by rw [List.length_take]; omega) (by rw [List.length_take]; omega)).mono ?_
          rintro e w113 ⟨v, rfl, ho, hb⟩
          obtain ⟨Ab, cb, rfl⟩ := Kd.R_slice ho
          refine ⟨_, rfl, ?_⟩
          have B114 := hb
          have S115 := S112.call B114
          have HRan := Aside0.mk (R_below HRa.out B114)
          clear HRa
          have HRa := HRan
          clear HRan
          have HRb := Aside0.mk ho
          clear ho
          have HBo := S112.ext.size
          refine ⟨trivial, ?_⟩
          refine d_one (listed' := #[true, true, true, true, true, true, true, true, true, true, false, false, false]) 9 rfl (by kernel_rfl) (wn rfl) (by kernel_rfl) ?_
          refine e_store (vs := [.slice Aa ((l7.take 50).length) ca]) (cs' := [.int .i64 kd, .int .i64 fd, .int .i64 s0, .int .u32 s1, .bool b0, .slice A5 50 c5, .int .i64 s3, .slice Aa ((l7.take 50).length) ca]) (σ' := [⟨g6, true, .cells #[.int .i64 0, .int .i64 0, .int .i64 0, .int .u32 0, .bool false, .slice none 0 0, .int .i64 0, .slice none 0 0] 30 (0, 0)⟩, ⟨g2, true, .cells #[.int .i64 kd, .int .i64 fd, .int .i64 s0, .int .u32 s1, .bool b0, .slice A5 50 c5, .int .i64 s3, .slice Aa ((l7.take 50).length) ca] 30 (0, 0)⟩]) S115 rfl rfl rfl rfl sz_24 1 rfl (.inl rfl) rfl rfl rfl ?_
          intro w116 S117 E118
          have HRan := Aside0.mk (R_ext HRa.out E118 (S115.blk 1 rfl) (by decide))
          clear HRa
          have HRa := HRan
          clear HRan
          have HRbn := Aside0.mk (R_ext HRb.out E118 (S115.blk 1 rfl) (by decide))
          clear HRb
          have HRb := HRbn
          clear HRbn
          refine ⟨trivial, ?_⟩
          refine d_take (v := .pointer (some ⟨g2, 2, none⟩)) (listed' := #[true, true, true, true, true, true, true, true, true, true, true, false, false]) 10 rfl (by kernel_rfl) (by kernel_rfl) (by kernel_rfl) rfl (fun _ _ _ h => h) (wn rfl) (fun W hW => r_field fld_30_2 rfl rfl) trivial (by kernel_rfl) ?_
          refine d_take (v := .pointer (some ⟨g2, 4, none⟩)) (listed' := #[true, true, true, true, true, true, true, true, true, true, true, true, false]) 11 rfl (by kernel_rfl) (by kernel_rfl) (by kernel_rfl) rfl (fun _ _ _ h => h) (wn rfl) (fun W hW => r_field fld_28_2 rfl rfl) trivial (by kernel_rfl) ?_
          refine d_one (listed' := #[true, true, true, true, true, true, true, true, true, true, true, true, true]) 12 rfl (by kernel_rfl) (wn rfl) (by kernel_rfl) ?_
          refine e_store (vs := [.bool b0, .slice Ab ((l5.take 50).length) cb]) (cs' := [.int .i64 kd, .int .i64 fd, .int .i64 s0, .int .u32 s1, .bool b0, .slice Ab ((l5.take 50).length) cb, .int .i64 s3, .slice Aa ((l7.take 50).length) ca]) (σ' := [⟨g6, true, .cells #[.int .i64 0, .int .i64 0, .int .i64 0, .int .u32 0, .bool false, .slice none 0 0, .int .i64 0, .slice none 0 0] 30 (0, 0)⟩, ⟨g2, true, .cells #[.int .i64 kd, .int .i64 fd, .int .i64 s0, .int .u32 s1, .bool b0, .slice Ab ((l5.take 50).length) cb, .int .i64 s3, .slice Aa ((l7.take 50).length) ca] 30 (0, 0)⟩]) S117 rfl rfl rfl rfl sz_26 1 rfl (.inl rfl) rfl rfl rfl ?_
          intro w119 S120 E121
          have HRan := Aside0.mk (R_ext HRa.out E121 (S117.blk 1 rfl) (by decide))
          clear HRa
          have HRa := HRan
          clear HRan
          have HRbn := Aside0.mk (R_ext HRb.out E121 (S117.blk 1 rfl) (by decide))
          clear HRb
          have HRb := HRbn
          clear HRbn
          refine ⟨trivial, ?_⟩
          refine d_done (by kernel_rfl) ?_
          refine x_seq ?_
          refine s_seq ?_
          refine s_region ?_
          refine q_val (v := .agg #[.int .i64 kd, .int .i64 fd, .int .i64 s0, .int .u32 s1, .bool b0, .slice Ab ((l5.take 50).length) cb, .int .i64 s3, .slice Aa ((l7.take 50).length) ca]) (wn rfl) rfl (r_loadN (vs := [.int .i64 kd, .int .i64 fd, .int .i64 s0, .int .u32 s1, .bool b0, .slice Ab ((l5.take 50).length) cb, .int .i64 s3, .slice Aa ((l7.take 50).length) ca]) sz_30 rfl (S120.blk 1 rfl) rfl rfl) ?_
          refine q_of (wn rfl) ?_
          refine e_store (vs := [.int .i64 kd, .int .i64 fd, .int .i64 s0, .int .u32 s1, .bool b0, .slice Ab ((l5.take 50).length) cb, .int .i64 s3, .slice Aa ((l7.take 50).length) ca]) (cs' := [.int .i64 kd, .int .i64 fd, .int .i64 s0, .int .u32 s1, .bool b0, .slice Ab ((l5.take 50).length) cb, .int .i64 s3, .slice Aa ((l7.take 50).length) ca]) (σ' := [⟨g6, true, .cells #[.int .i64 kd, .int .i64 fd, .int .i64 s0, .int .u32 s1, .bool b0, .slice Ab ((l5.take 50).length) cb, .int .i64 s3, .slice Aa ((l7.take 50).length) ca] 30 (0, 0)⟩, ⟨g2, true, .cells #[.int .i64 kd, .int .i64 fd, .int .i64 s0, .int .u32 s1, .bool b0, .slice Ab ((l5.take 50).length) cb, .int .i64 s3, .slice Aa ((l7.take 50).length) ca] 30 (0, 0)⟩]) S120 rfl rfl rfl rfl sz_30 0 rfl (.inl rfl) rfl rfl rfl ?_
          intro w122 S123 E124
          have HRan := Aside0.mk (R_ext HRa.out E124 (S120.blk 0 rfl) (by decide))
          clear HRa
          have HRa := HRan
          clear HRan
          have HRbn := Aside0.mk (R_ext HRb.out E124 (S120.blk 0 rfl) (by decide))
          clear HRb
          have HRb := HRbn
          clear HRbn
          refine q_nil ?_
          refine x_seq ?_
          refine s_ret ?_
          refine t_retc (cs := [.int .i64 kd, .int .i64 fd, .int .i64 s0, .int .u32 s1, .bool b0, .slice Ab ((l5.take 50).length) cb, .int .i64 s3, .slice Aa ((l7.take 50).length) ca])  rfl rfl (S123.blk 0 rfl) sz_30 ?_
          have el7 : cut50 l7 = (l7.take 50) := by unfold cut50; first | rw [if_pos (by omega)] | rw [if_neg (by omega)]
          have el5 : cut50 l5 = (l5.take 50) := by unfold cut50; first | rw [if_pos (by omega)] | rw [if_neg (by omega)]
          rw [el7, el5]
          exact ⟨_, _, rfl, Kd.R_lower HRb.out HBo, HRa.out, S123.ext.below⟩
        · skip
          refine e_val (v := .slice A7 50 c7) rfl (r_load1 sz_24 rfl (S16.cell 1 rfl rfl)) ?_
          refine ⟨trivial, ?_⟩
          refine d_one (listed' := #[true, true, true, false, true, true, true, false, false, false, false, false, false]) 0 rfl (by kernel_rfl) (wn rfl) (by kernel_rfl) ?_
          refine e_new (vf := fun g => .slice (some ⟨g, 0, none⟩) 0 0) (ob := .cells #[] 3) rfl S16 (r_buildSlice (ps := []) rfl (by kernel_rfl)) ?_
          intro g125 w126 hg125 S127 B128
          refine ⟨trivial, ?_⟩
          refine d_one (listed' := #[true, true, true, true, true, true, true, false, false, false, false, false, false]) 3 rfl (by kernel_rfl) (wn rfl) (by kernel_rfl) ?_
          have hC129 : Kd.C (Kd.int .i64) w126 A7 50 (l7.take 50) := by have h_ := C_take (Kd.C_below HC7.out S127.ext.below) 50; rw [take50 (by omega)] at h_; exact h_
          obtain ⟨v129, w129, hr129, HRa129, E129⟩ := append_row (c := c7) 24 (empty_row (base := w.heap.size) (S127.blk 0 rfl) (S127.own _ (List.mem_of_getElem? (i := 0) rfl) rfl)) hC129 (by first | (simp; done) | (simp; omega)) (S127.ext.size)
          rw [List.nil_append] at HRa129
          obtain ⟨Aa, ca, rfl⟩ := Kd.R_slice HRa129
          refine e_val (v := .slice Aa (l7.take 50).length ca) rfl (r_append rfl rfl hr129) ?_
          obtain ⟨S129, F129⟩ := St_app S127 E129
          have HRa := Aside0.mk HRa129
          refine ⟨trivial, ?_⟩
          refine d_take (v := .pointer (some ⟨g2, 7, none⟩)) (listed' := #[true, true, true, true, true, true, true, false, true, false, false, false, false]) 8 rfl (by kernel_rfl) (by kernel_rfl) (by kernel_rfl) rfl (fun _ _ _ h => h) (wn rfl) (fun W hW => r_field fld_30_3 rfl rfl) trivial (by kernel_rfl) ?_
          refine d_one (listed' := #[true, true, true, true, true, true, true, true, true, false, false, false, false]) 7 rfl (by kernel_rfl) (wn rfl) (by kernel_rfl) ?_
          refine e_call (args := [.agg #[.bool b0, .slice A5 50 c5]]) Try.func38 (by kernel_rfl) rfl rfl ?_
          have hC5 := C_take (Kd.C_below HC5.out S129.ext.below) 50
          refine (Own_at b0 A5 c5 (l5.take 50) 50 (take50 (by omega)) _ hC5 (by rw [List.length_take]; omega) (by rw [List.length_take]; omega)).mono ?_
          rintro e w130 ⟨v, rfl, ho, hb⟩
          obtain ⟨Ab, cb, rfl⟩ := Kd.R_slice ho
          refine ⟨_, rfl, ?_⟩
          have B131 := hb
          have S132 := S129.call B131
          have HRan := Aside0.mk (R_below HRa.out B131)
          clear HRa
          have HRa := HRan
          clear HRan
          have HRb := Aside0.mk ho
          clear ho
          have HBo := S129.ext.size
          refine ⟨trivial, ?_⟩
          refine d_one (listed' := #[true, true, true, true, true, true, true, true, true, true, false, false, false]) 9 rfl (by kernel_rfl) (wn rfl) (by kernel_rfl) ?_
          refine e_store (vs := [.slice Aa ((l7.take 50).length) ca]) (cs' := [.int .i64 kd, .int .i64 fd, .int .i64 s0, .int .u32 s1, .bool b0, .slice A5 50 c5, .int .i64 s3, .slice Aa ((l7.take 50).length) ca]) (σ' := [⟨g6, true, .cells #[.int .i64 0, .int .i64 0, .int .i64 0, .int .u32 0, .bool false, .slice none 0 0, .int .i64 0, .slice none 0 0] 30 (0, 0)⟩, ⟨g2, true, .cells #[.int .i64 kd, .int .i64 fd, .int .i64 s0, .int .u32 s1, .bool b0, .slice A5 50 c5, .int .i64 s3, .slice Aa ((l7.take 50).length) ca] 30 (0, 0)⟩]) S132 rfl rfl rfl rfl sz_24 1 rfl (.inl rfl) rfl rfl rfl ?_
          intro w133 S134 E135
          have HRan := Aside0.mk (R_ext HRa.out E135 (S132.blk 1 rfl) (by decide))
          clear HRa
          have HRa := HRan
          clear HRan
          have HRbn := Aside0.mk (R_ext HRb.out E135 (S132.blk 1 rfl) (by decide))
          clear HRb
          have HRb := HRbn
          clear HRbn
          refine ⟨trivial, ?_⟩
          refine d_take (v := .pointer (some ⟨g2, 2, none⟩)) (listed' := #[true, true, true, true, true, true, true, true, true, true, true, false, false]) 10 rfl (by kernel_rfl) (by kernel_rfl) (by kernel_rfl) rfl (fun _ _ _ h => h) (wn rfl) (fun W hW => r_field fld_30_2 rfl rfl) trivial (by kernel_rfl) ?_
          refine d_take (v := .pointer (some ⟨g2, 4, none⟩)) (listed' := #[true, true, true, true, true, true, true, true, true, true, true, true, false]) 11 rfl (by kernel_rfl) (by kernel_rfl) (by kernel_rfl) rfl (fun _ _ _ h => h) (wn rfl) (fun W hW => r_field fld_28_2 rfl rfl) trivial (by kernel_rfl) ?_
          refine d_one (listed' := #[true, true, true, true, true, true, true, true, true, true, true, true, true]) 12 rfl (by kernel_rfl) (wn rfl) (by kernel_rfl) ?_
          refine e_store (vs := [.bool b0, .slice Ab ((l5.take 50).length) cb]) (cs' := [.int .i64 kd, .int .i64 fd, .int .i64 s0, .int .u32 s1, .bool b0, .slice Ab ((l5.take 50).length) cb, .int .i64 s3, .slice Aa ((l7.take 50).length) ca]) (σ' := [⟨g6, true, .cells #[.int .i64 0, .int .i64 0, .int .i64 0, .int .u32 0, .bool false, .slice none 0 0, .int .i64 0, .slice none 0 0] 30 (0, 0)⟩, ⟨g2, true, .cells #[.int .i64 kd, .int .i64 fd, .int .i64 s0, .int .u32 s1, .bool b0, .slice Ab ((l5.take 50).length) cb, .int .i64 s3, .slice Aa ((l7.take 50).length) ca] 30 (0, 0)⟩]) S134 rfl rfl rfl rfl sz_26 1 rfl (.inl rfl) rfl rfl rfl ?_
          intro w136 S137 E138
          have HRan := Aside0.mk (R_ext HRa.out E138 (S134.blk 1 rfl) (by decide))
          clear HRa
          have HRa := HRan
          clear HRan
          have HRbn := Aside0.mk (R_ext HRb.out E138 (S134.blk 1 rfl) (by decide))
          clear HRb
          have HRb := HRbn
          clear HRbn
          refine ⟨trivial, ?_⟩
          refine d_done (by kernel_rfl) ?_
          refine x_seq ?_
          refine s_seq ?_
          refine s_region ?_
          refine q_val (v := .agg #[.int .i64 kd, .int .i64 fd, .int .i64 s0, .int .u32 s1, .bool b0, .slice Ab ((l5.take 50).length) cb, .int .i64 s3, .slice Aa ((l7.take 50).length) ca]) (wn rfl) rfl (r_loadN (vs := [.int .i64 kd, .int .i64 fd, .int .i64 s0, .int .u32 s1, .bool b0, .slice Ab ((l5.take 50).length) cb, .int .i64 s3, .slice Aa ((l7.take 50).length) ca]) sz_30 rfl (S137.blk 1 rfl) rfl rfl) ?_
          refine q_of (wn rfl) ?_
          refine e_store (vs := [.int .i64 kd, .int .i64 fd, .int .i64 s0, .int .u32 s1, .bool b0, .slice Ab ((l5.take 50).length) cb, .int .i64 s3, .slice Aa ((l7.take 50).length) ca]) (cs' := [.int .i64 kd, .int .i64 fd, .int .i64 s0, .int .u32 s1, .bool b0, .slice Ab ((l5.take 50).length) cb, .int .i64 s3, .slice Aa ((l7.take 50).length) ca]) (σ' := [⟨g6, true, .cells #[.int .i64 kd, .int .i64 fd, .int .i64 s0, .int .u32 s1, .bool b0, .slice Ab ((l5.take 50).length) cb, .int .i64 s3, .slice Aa ((l7.take 50).length) ca] 30 (0, 0)⟩, ⟨g2, true, .cells #[.int .i64 kd, .int .i64 fd, .int .i64 s0, .int .u32 s1, .bool b0, .slice Ab ((l5.take 50).length) cb, .int .i64 s3, .slice Aa ((l7.take 50).length) ca] 30 (0, 0)⟩]) S137 rfl rfl rfl rfl sz_30 0 rfl (.inl rfl) rfl rfl rfl ?_
          intro w139 S140 E141
          have HRan := Aside0.mk (R_ext HRa.out E141 (S137.blk 0 rfl) (by decide))
          clear HRa
          have HRa := HRan
          clear HRan
          have HRbn := Aside0.mk (R_ext HRb.out E141 (S137.blk 0 rfl) (by decide))
          clear HRb
          have HRb := HRbn
          clear HRbn
          refine q_nil ?_
          refine x_seq ?_
          refine s_ret ?_
          refine t_retc (cs := [.int .i64 kd, .int .i64 fd, .int .i64 s0, .int .u32 s1, .bool b0, .slice Ab ((l5.take 50).length) cb, .int .i64 s3, .slice Aa ((l7.take 50).length) ca])  rfl rfl (S140.blk 0 rfl) sz_30 ?_
          have el7 : cut50 l7 = (l7.take 50) := by unfold cut50; first | rw [if_pos (by omega)] | rw [if_neg (by omega)]
          have el5 : cut50 l5 = (l5.take 50) := by unfold cut50; first | rw [if_pos (by omega)] | rw [if_neg (by omega)]
          rw [el7, el5]
          exact ⟨_, _, rfl, Kd.R_lower HRb.out HBo, HRa.out, S140.ext.below⟩
    · skip
      refine q_val (v := .bool false) (wn rfl) rfl (r_gtr rfl rfl (decide_eq_false (h5))) ?_
      refine q_nil ?_
      refine x_seq ?_
      refine s_false rfl ?_
      refine s_skip ?_
      refine x_seq ?_
      refine s_seq ?_
      refine d_start mix (fun _ => True) ?_
      have S142 := S11.draw
      generalize w10.drew = w143 at S142 ⊢
      refine d_take (v := .pointer (some ⟨g2, 7, none⟩)) (listed' := #[false, true, false, false, false, false, false, false, false, false, false, false, false]) 1 rfl (by kernel_rfl) (by kernel_rfl) (by kernel_rfl) rfl (fun _ _ _ h => h) (wn rfl) (fun W hW => r_field fld_30_3 rfl rfl) trivial (by kernel_rfl) ?_
      refine d_take (v := .pointer (some ⟨g2, 2, none⟩)) (listed' := #[false, true, false, false, true, false, false, false, false, false, false, false, false]) 4 rfl (by kernel_rfl) (by kernel_rfl) (by kernel_rfl) rfl (fun _ _ _ h => h) (wn rfl) (fun W hW => r_field fld_30_2 rfl rfl) trivial (by kernel_rfl) ?_
      refine d_take (v := .pointer (some ⟨g2, 4, none⟩)) (listed' := #[false, true, false, false, true, true, false, false, false, false, false, false, false]) 5 rfl (by kernel_rfl) (by kernel_rfl) (by kernel_rfl) rfl (fun _ _ _ h => h) (wn rfl) (fun W hW => r_field fld_28_2 rfl rfl) trivial (by kernel_rfl) ?_
      refine d_three (la := #[true, true, false, false, true, true, false, false, false, false, false, false, false]) (lb := #[false, true, true, false, true, true, false, false, false, false, false, false, false]) (lc := #[false, true, false, false, true, true, true, false, false, false, false, false, false]) 0 2 6 rfl rfl rfl (by kernel_rfl) (wn rfl) (wn rfl) (wn rfl) (by kernel_rfl) (by kernel_rfl) (by kernel_rfl) ?_ ?_ ?_
      · skip
        refine e_new (vf := fun g => .slice (some ⟨g, 0, none⟩) 0 0) (ob := .cells #[] 3) rfl S142 (r_buildSlice (ps := []) rfl (by kernel_rfl)) ?_
        intro g144 w145 hg144 S146 B147
        refine ⟨trivial, ?_⟩
        refine d_two (listed' := #[true, true, true, false, true, true, false, false, false, false, false, false, false]) (listed'' := #[true, true, false, false, true, true, true, false, false, false, false, false, false]) 2 6 rfl rfl (by kernel_rfl) (wn rfl) (wn rfl) (by kernel_rfl) (by kernel_rfl) ?_ ?_
        · skip
          refine e_val (v := .slice A7 50 c7) rfl (r_load1 sz_24 rfl (S146.cell 2 rfl rfl)) ?_
          refine ⟨trivial, ?_⟩
          refine d_two (listed' := #[true, true, true, true, true, true, false, false, false, false, false, false, false]) (listed'' := #[true, true, true, false, true, true, true, false, false, false, false, false, false]) 3 6 rfl rfl (by kernel_rfl) (wn rfl) (wn rfl) (by kernel_rfl) (by kernel_rfl) ?_ ?_
          · skip
            have hC148 : Kd.C (Kd.int .i64) w145 A7 50 (l7.take 50) := by have h_ := C_take (Kd.C_below HC7.out S146.ext.below) 50; rw [take50 (by omega)] at h_; exact h_
            obtain ⟨v148, w148, hr148, HRa148, E148⟩ := append_row (c := c7) 24 (empty_row (base := w.heap.size) (S146.blk 0 rfl) (S146.own _ (List.mem_of_getElem? (i := 0) rfl) rfl)) hC148 (by first | (simp; done) | (simp; omega)) (S146.ext.size)
            rw [List.nil_append] at HRa148
            obtain ⟨Aa, ca, rfl⟩ := Kd.R_slice HRa148
            refine e_val (v := .slice Aa (l7.take 50).length ca) rfl (r_append rfl rfl hr148) ?_
            obtain ⟨S148, F148⟩ := St_app S146 E148
            have HRa := Aside0.mk HRa148
            refine ⟨trivial, ?_⟩
            refine d_one (listed' := #[true, true, true, true, true, true, true, false, false, false, false, false, false]) 6 rfl (by kernel_rfl) (wn rfl) (by kernel_rfl) ?_
            refine e_val (v := .agg #[.bool b0, .slice A5 l5.length c5]) rfl (r_loadN (vs := [.bool b0, .slice A5 l5.length c5]) sz_26 rfl (S148.blk 1 rfl) rfl rfl) ?_
            refine ⟨trivial, ?_⟩
            refine d_take (v := .pointer (some ⟨g2, 7, none⟩)) (listed' := #[true, true, true, true, true, true, true, false, true, false, false, false, false]) 8 rfl (by kernel_rfl) (by kernel_rfl) (by kernel_rfl) rfl (fun _ _ _ h => h) (wn rfl) (fun W hW => r_field fld_30_3 rfl rfl) trivial (by kernel_rfl) ?_
            refine d_one (listed' := #[true, true, true, true, true, true, true, true, true, false, false, false, false]) 7 rfl (by kernel_rfl) (wn rfl) (by kernel_rfl) ?_
            refine e_call (args := [.agg #[.bool b0, .slice A5 l5.length c5]]) Try.func38 (by kernel_rfl) rfl rfl ?_
            have hC5 := Kd.C_below HC5.out S148.ext.below
            refine (Own_at b0 A5 c5 l5 l5.length rfl _ hC5 (by omega) (by omega)).mono ?_
            rintro e w149 ⟨v, rfl, ho, hb⟩
            obtain ⟨Ab, cb, rfl⟩ := Kd.R_slice ho
            refine ⟨_, rfl, ?_⟩
            have B150 := hb
            have S151 := S148.call B150
            have HRan := Aside0.mk (R_below HRa.out B150)
            clear HRa
            have HRa := HRan
            clear HRan
            have HRb := Aside0.mk ho
            clear ho
            have HBo := S148.ext.size
            refine ⟨trivial, ?_⟩
            refine d_one (listed' := #[true, true, true, true, true, true, true, true, true, true, false, false, false]) 9 rfl (by kernel_rfl) (wn rfl) (by kernel_rfl) ?_
            refine e_store (vs := [.slice Aa ((l7.take 50).length) ca]) (cs' := [.int .i64 kd, .int .i64 fd, .int .i64 s0, .int .u32 s1, .bool b0, .slice A5 l5.length c5, .int .i64 s3, .slice Aa ((l7.take 50).length) ca]) (σ' := [⟨g6, true, .cells #[.int .i64 0, .int .i64 0, .int .i64 0, .int .u32 0, .bool false, .slice none 0 0, .int .i64 0, .slice none 0 0] 30 (0, 0)⟩, ⟨g2, true, .cells #[.int .i64 kd, .int .i64 fd, .int .i64 s0, .int .u32 s1, .bool b0, .slice A5 l5.length c5, .int .i64 s3, .slice Aa ((l7.take 50).length) ca] 30 (0, 0)⟩]) S151 rfl rfl rfl rfl sz_24 1 rfl (.inl rfl) rfl rfl rfl ?_
            intro w152 S153 E154
            have HRan := Aside0.mk (R_ext HRa.out E154 (S151.blk 1 rfl) (by decide))
            clear HRa
            have HRa := HRan
            clear HRan
            have HRbn := Aside0.mk (R_ext HRb.out E154 (S151.blk 1 rfl) (by decide))
            clear HRb
            have HRb := HRbn
            clear HRbn
            refine ⟨trivial, ?_⟩
            refine d_take (v := .pointer (some ⟨g2, 2, none⟩)) (listed' := #[true, true, true, true, true, true, true, true, true, true, true, false, false]) 10 rfl (by kernel_rfl) (by kernel_rfl) (by kernel_rfl) rfl (fun _ _ _ h => h) (wn rfl) (fun W hW => r_field fld_30_2 rfl rfl) trivial (by kernel_rfl) ?_
            refine d_take (v := .pointer (some ⟨g2, 4, none⟩)) (listed' := #[true, true, true, true, true, true, true, true, true, true, true, true, false]) 11 rfl (by kernel_rfl) (by kernel_rfl) (by kernel_rfl) rfl (fun _ _ _ h => h) (wn rfl) (fun W hW => r_field fld_28_2 rfl rfl) trivial (by kernel_rfl) ?_
            refine d_one (listed' := #[true, true, true, true, true, true, true, true, true, true, true, true, true]) 12 rfl (by kernel_rfl) (wn rfl) (by kernel_rfl) ?_
            refine e_store (vs := [.bool b0, .slice Ab l5.length cb]) (cs' := [.int .i64 kd, .int .i64 fd, .int .i64 s0, .int .u32 s1, .bool b0, .slice Ab l5.length cb, .int .i64 s3, .slice Aa ((l7.take 50).length) ca]) (σ' := [⟨g6, true, .cells #[.int .i64 0, .int .i64 0, .int .i64 0, .int .u32 0, .bool false, .slice none 0 0, .int .i64 0, .slice none 0 0] 30 (0, 0)⟩, ⟨g2, true, .cells #[.int .i64 kd, .int .i64 fd, .int .i64 s0, .int .u32 s1, .bool b0, .slice Ab l5.length cb, .int .i64 s3, .slice Aa ((l7.take 50).length) ca] 30 (0, 0)⟩]) S153 rfl rfl rfl rfl sz_26 1 rfl (.inl rfl) rfl rfl rfl ?_
            intro w155 S156 E157
            have HRan := Aside0.mk (R_ext HRa.out E157 (S153.blk 1 rfl) (by decide))
            clear HRa
            have HRa := HRan
            clear HRan
            have HRbn := Aside0.mk (R_ext HRb.out E157 (S153.blk 1 rfl) (by decide))
            clear HRb
            have HRb := HRbn
            clear HRbn
            refine ⟨trivial, ?_⟩
            refine d_done (by kernel_rfl) ?_
            refine x_seq ?_
            refine s_seq ?_
            refine s_region ?_
            refine q_val (v := .agg #[.int .i64 kd, .int .i64 fd, .int .i64 s0, .int .u32 s1, .bool b0, .slice Ab l5.length cb, .int .i64 s3, .slice Aa ((l7.take 50).length) ca]) (wn rfl) rfl (r_loadN (vs := [.int .i64 kd, .int .i64 fd, .int .i64 s0, .int .u32 s1, .bool b0, .slice Ab l5.length cb, .int .i64 s3, .slice Aa ((l7.take 50).length) ca]) sz_30 rfl (S156.blk 1 rfl) rfl rfl) ?_
            refine q_of (wn rfl) ?_
            refine e_store (vs := [.int .i64 kd, .int .i64 fd, .int .i64 s0, .int .u32 s1, .bool b0, .slice Ab l5.length cb, .int .i64 s3, .slice Aa ((l7.take 50).length) ca]) (cs' := [.int .i64 kd, .int .i64 fd, .int .i64 s0, .int .u32 s1, .bool b0, .slice Ab l5.length cb, .int .i64 s3, .slice Aa ((l7.take 50).length) ca]) (σ' := [⟨g6, true, .cells #[.int .i64 kd, .int .i64 fd, .int .i64 s0, .int .u32 s1, .bool b0, .slice Ab l5.length cb, .int .i64 s3, .slice Aa ((l7.take 50).length) ca] 30 (0, 0)⟩, ⟨g2, true, .cells #[.int .i64 kd, .int .i64 fd, .int .i64 s0, .int .u32 s1, .bool b0, .slice Ab l5.length cb, .int .i64 s3, .slice Aa ((l7.take 50).length) ca] 30 (0, 0)⟩]) S156 rfl rfl rfl rfl sz_30 0 rfl (.inl rfl) rfl rfl rfl ?_
            intro w158 S159 E160
            have HRan := Aside0.mk (R_ext HRa.out E160 (S156.blk 0 rfl) (by decide))
            clear HRa
            have HRa := HRan
            clear HRan
            have HRbn := Aside0.mk (R_ext HRb.out E160 (S156.blk 0 rfl) (by decide))
            clear HRb
            have HRb := HRbn
            clear HRbn
            refine q_nil ?_
            refine x_seq ?_
            refine s_ret ?_
            refine t_retc (cs := [.int .i64 kd, .int .i64 fd, .int .i64 s0, .int .u32 s1, .bool b0, .slice Ab l5.length cb, .int .i64 s3, .slice Aa ((l7.take 50).length) ca])  rfl rfl (S159.blk 0 rfl) sz_30 ?_
            have el7 : cut50 l7 = (l7.take 50) := by unfold cut50; first | rw [if_pos (by omega)] | rw [if_neg (by omega)]
            have el5 : cut50 l5 = l5 := by unfold cut50; first | rw [if_pos (by omega)] | rw [if_neg (by omega)]
            rw [el7, el5]
            exact ⟨_, _, rfl, Kd.R_lower HRb.out HBo, HRa.out, S159.ext.below⟩
          · skip
            refine e_val (v := .agg #[.bool b0, .slice A5 l5.length c5]) rfl (r_loadN (vs := [.bool b0, .slice A5 l5.length c5]) sz_26 rfl (S146.blk 2 rfl) rfl rfl) ?_
            refine ⟨trivial, ?_⟩
            refine d_one (listed' := #[true, true, true, true, true, true, true, false, false, false, false, false, false]) 3 rfl (by kernel_rfl) (wn rfl) (by kernel_rfl) ?_
            have hC161 : Kd.C (Kd.int .i64) w145 A7 50 (l7.take 50) := by have h_ := C_take (Kd.C_below HC7.out S146.ext.below) 50; rw [take50 (by omega)] at h_; exact h_
            obtain ⟨v161, w161, hr161, HRa161, E161⟩ := append_row (c := c7) 24 (empty_row (base := w.heap.size) (S146.blk 0 rfl) (S146.own _ (List.mem_of_getElem? (i := 0) rfl) rfl)) hC161 (by first | (simp; done) | (simp; omega)) (S146.ext.size)
            rw [List.nil_append] at HRa161
            obtain ⟨Aa, ca, rfl⟩ := Kd.R_slice HRa161
            refine e_val (v := .slice Aa (l7.take 50).length ca) rfl (r_append rfl rfl hr161) ?_
            obtain ⟨S161, F161⟩ := St_app S146 E161
            have HRa := Aside0.mk HRa161
            refine ⟨trivial, ?_⟩
            refine d_take (v := .pointer (some ⟨g2, 7, none⟩)) (listed' := #[true, true, true, true, true, true, true, false, true, false, false, false, false]) 8 rfl (by kernel_rfl) (by kernel_rfl) (by kernel_rfl) rfl (fun _ _ _ h => h) (wn rfl) (fun W hW => r_field fld_30_3 rfl rfl) trivial (by kernel_rfl) ?_
            refine d_one (listed' := #[true, true, true, true, true, true, true, true, true, false, false, false, false]) 7 rfl (by kernel_rfl) (wn rfl) (by kernel_rfl) ?_
            refine e_call (args := [.agg #[.bool b0, .slice A5 l5.length c5]]) Try.func38 (by kernel_rfl) rfl rfl ?_
            have hC5 := Kd.C_below HC5.out S161.ext.below
            refine (Own_at b0 A5 c5 l5 l5.length rfl _ hC5 (by omega) (by omega)).mono ?_
            rintro e w162 ⟨v, rfl, ho, hb⟩
            obtain ⟨Ab, cb, rfl⟩ := Kd.R_slice ho
            refine ⟨_, rfl, ?_⟩
            have B163 := hb
            have S164 := S161.call B163
            have HRan := Aside0.mk (R_below HRa.out B163)
            clear HRa
            have HRa := HRan
            clear HRan
            have HRb := Aside0.mk ho
            clear ho
            have HBo := S161.ext.size
            refine ⟨trivial, ?_⟩
            refine d_one (listed' := #[true, true, true, true, true, true, true, true, true, true, false, false, false]) 9 rfl (by kernel_rfl) (wn rfl) (by kernel_rfl) ?_
            refine e_store (vs := [.slice Aa ((l7.take 50).length) ca]) (cs' := [.int .i64 kd, .int .i64 fd, .int .i64 s0, .int .u32 s1, .bool b0, .slice A5 l5.length c5, .int .i64 s3, .slice Aa ((l7.take 50).length) ca]) (σ' := [⟨g6, true, .cells #[.int .i64 0, .int .i64 0, .int .i64 0, .int .u32 0, .bool false, .slice none 0 0, .int .i64 0, .slice none 0 0] 30 (0, 0)⟩, ⟨g2, true, .cells #[.int .i64 kd, .int .i64 fd, .int .i64 s0, .int .u32 s1, .bool b0, .slice A5 l5.length c5, .int .i64 s3, .slice Aa ((l7.take 50).length) ca] 30 (0, 0)⟩]) S164 rfl rfl rfl rfl sz_24 1 rfl (.inl rfl) rfl rfl rfl ?_
            intro w165 S166 E167
            have HRan := Aside0.mk (R_ext HRa.out E167 (S164.blk 1 rfl) (by decide))
            clear HRa
            have HRa := HRan
            clear HRan
            have HRbn := Aside0.mk (R_ext HRb.out E167 (S164.blk 1 rfl) (by decide))
            clear HRb
            have HRb := HRbn
            clear HRbn
            refine ⟨trivial, ?_⟩
            refine d_take (v := .pointer (some ⟨g2, 2, none⟩)) (listed' := #[true, true, true, true, true, true, true, true, true, true, true, false, false]) 10 rfl (by kernel_rfl) (by kernel_rfl) (by kernel_rfl) rfl (fun _ _ _ h => h) (wn rfl) (fun W hW => r_field fld_30_2 rfl rfl) trivial (by kernel_rfl) ?_
            refine d_take (v := .pointer (some ⟨g2, 4, none⟩)) (listed' := #[true, true, true, true, true, true, true, true, true, true, true, true, false]) 11 rfl (by kernel_rfl) (by kernel_rfl) (by kernel_rfl) rfl (fun _ _ _ h => h) (wn rfl) (fun W hW => r_field fld_28_2 rfl rfl) trivial (by kernel_rfl) ?_
            refine d_one (listed' := #[true, true, true, true, true, true, true, true, true, true, true, true, true]) 12 rfl (by kernel_rfl) (wn rfl) (by kernel_rfl) ?_
            refine e_store (vs := [.bool b0, .slice Ab l5.length cb]) (cs' := [.int .i64 kd, .int .i64 fd, .int .i64 s0, .int .u32 s1, .bool b0, .slice Ab l5.length cb, .int .i64 s3, .slice Aa ((l7.take 50).length) ca]) (σ' := [⟨g6, true, .cells #[.int .i64 0, .int .i64 0, .int .i64 0, .int .u32 0, .bool false, .slice none 0 0, .int .i64 0, .slice none 0 0] 30 (0, 0)⟩, ⟨g2, true, .cells #[.int .i64 kd, .int .i64 fd, .int .i64 s0, .int .u32 s1, .bool b0, .slice Ab l5.length cb, .int .i64 s3, .slice Aa ((l7.take 50).length) ca] 30 (0, 0)⟩]) S166 rfl rfl rfl rfl sz_26 1 rfl (.inl rfl) rfl rfl rfl ?_
            intro w168 S169 E170
            have HRan := Aside0.mk (R_ext HRa.out E170 (S166.blk 1 rfl) (by decide))
            clear HRa
            have HRa := HRan
            clear HRan
            have HRbn := Aside0.mk (R_ext HRb.out E170 (S166.blk 1 rfl) (by decide))
            clear HRb
            have HRb := HRbn
            clear HRbn
            refine ⟨trivial, ?_⟩
            refine d_done (by kernel_rfl) ?_
            refine x_seq ?_
            refine s_seq ?_
            refine s_region ?_
            refine q_val (v := .agg #[.int .i64 kd, .int .i64 fd, .int .i64 s0, .int .u32 s1, .bool b0, .slice Ab l5.length cb, .int .i64 s3, .slice Aa ((l7.take 50).length) ca]) (wn rfl) rfl (r_loadN (vs := [.int .i64 kd, .int .i64 fd, .int .i64 s0, .int .u32 s1, .bool b0, .slice Ab l5.length cb, .int .i64 s3, .slice Aa ((l7.take 50).length) ca]) sz_30 rfl (S169.blk 1 rfl) rfl rfl) ?_
            refine q_of (wn rfl) ?_
            refine e_store (vs := [.int .i64 kd, .int .i64 fd, .int .i64 s0, .int .u32 s1, .bool b0, .slice Ab l5.length cb, .int .i64 s3, .slice Aa ((l7.take 50).length) ca]) (cs' := [.int .i64 kd, .int .i64 fd, .int .i64 s0, .int .u32 s1, .bool b0, .slice Ab l5.length cb, .int .i64 s3, .slice Aa ((l7.take 50).length) ca]) (σ' := [⟨g6, true, .cells #[.int .i64 kd, .int .i64 fd, .int .i64 s0, .int .u32 s1, .bool b0, .slice Ab l5.length cb, .int .i64 s3, .slice Aa ((l7.take 50).length) ca] 30 (0, 0)⟩, ⟨g2, true, .cells #[.int .i64 kd, .int .i64 fd, .int .i64 s0, .int .u32 s1, .bool b0, .slice Ab l5.length cb, .int .i64 s3, .slice Aa ((l7.take 50).length) ca] 30 (0, 0)⟩]) S169 rfl rfl rfl rfl sz_30 0 rfl (.inl rfl) rfl rfl rfl ?_
            intro w171 S172 E173
            have HRan := Aside0.mk (R_ext HRa.out E173 (S169.blk 0 rfl) (by decide))
            clear HRa
            have HRa := HRan
            clear HRan
            have HRbn := Aside0.mk (R_ext HRb.out E173 (S169.blk 0 rfl) (by decide))
            clear HRb
            have HRb := HRbn
            clear HRbn
            refine q_nil ?_
            refine x_seq ?_
            refine s_ret ?_
            refine t_retc (cs := [.int .i64 kd, .int .i64 fd, .int .i64 s0, .int .u32 s1, .bool b0, .slice Ab l5.length cb, .int .i64 s3, .slice Aa ((l7.take 50).length) ca])  rfl rfl (S172.blk 0 rfl) sz_30 ?_
            have el7 : cut50 l7 = (l7.take 50) := by unfold cut50; first | rw [if_pos (by omega)] | rw [if_neg (by omega)]
            have el5 : cut50 l5 = l5 := by unfold cut50; first | rw [if_pos (by omega)] | rw [if_neg (by omega)]
            rw [el7, el5]
            exact ⟨_, _, rfl, Kd.R_lower HRb.out HBo, HRa.out, S172.ext.below⟩
        · skip
          refine e_val (v := .agg #[.bool b0, .slice A5 l5.length c5]) rfl (r_loadN (vs := [.bool b0, .slice A5 l5.length c5]) sz_26 rfl (S146.blk 2 rfl) rfl rfl) ?_
          refine ⟨trivial, ?_⟩
          refine d_one (listed' := #[true, true, true, false, true, true, true, false, false, false, false, false, false]) 2 rfl (by kernel_rfl) (wn rfl) (by kernel_rfl) ?_
          refine e_val (v := .slice A7 50 c7) rfl (r_load1 sz_24 rfl (S146.cell 2 rfl rfl)) ?_
          refine ⟨trivial, ?_⟩
          refine d_one (listed' := #[true, true, true, true, true, true, true, false, false, false, false, false, false]) 3 rfl (by kernel_rfl) (wn rfl) (by kernel_rfl) ?_
          have hC174 : Kd.C (Kd.int .i64) w145 A7 50 (l7.take 50) := by have h_ := C_take (Kd.C_below HC7.out S146.ext.below) 50; rw [take50 (by omega)] at h_; exact h_
          obtain ⟨v174, w174, hr174, HRa174, E174⟩ := append_row (c := c7) 24 (empty_row (base := w.heap.size) (S146.blk 0 rfl) (S146.own _ (List.mem_of_getElem? (i := 0) rfl) rfl)) hC174 (by first | (simp; done) | (simp; omega)) (S146.ext.size)
          rw [List.nil_append] at HRa174
          obtain ⟨Aa, ca, rfl⟩ := Kd.R_slice HRa174
          refine e_val (v := .slice Aa (l7.take 50).length ca) rfl (r_append rfl rfl hr174) ?_
          obtain ⟨S174, F174⟩ := St_app S146 E174
          have HRa := Aside0.mk HRa174
          refine ⟨trivial, ?_⟩
          refine d_take (v := .pointer (some ⟨g2, 7, none⟩)) (listed' := #[true, true, true, true, true, true, true, false, true, false, false, false, false]) 8 rfl (by kernel_rfl) (by kernel_rfl) (by kernel_rfl) rfl (fun _ _ _ h => h) (wn rfl) (fun W hW => r_field fld_30_3 rfl rfl) trivial (by kernel_rfl) ?_
          refine d_one (listed' := #[true, true, true, true, true, true, true, true, true, false, false, false, false]) 7 rfl (by kernel_rfl) (wn rfl) (by kernel_rfl) ?_
          refine e_call (args := [.agg #[.bool b0, .slice A5 l5.length c5]]) Try.func38 (by kernel_rfl) rfl rfl ?_
          have hC5 := Kd.C_below HC5.out S174.ext.below
          refine (Own_at b0 A5 c5 l5 l5.length rfl _ hC5 (by omega) (by omega)).mono ?_
          rintro e w175 ⟨v, rfl, ho, hb⟩
          obtain ⟨Ab, cb, rfl⟩ := Kd.R_slice ho
          refine ⟨_, rfl, ?_⟩
          have B176 := hb
          have S177 := S174.call B176
          have HRan := Aside0.mk (R_below HRa.out B176)
          clear HRa
          have HRa := HRan
          clear HRan
          have HRb := Aside0.mk ho
          clear ho
          have HBo := S174.ext.size
          refine ⟨trivial, ?_⟩
          refine d_one (listed' := #[true, true, true, true, true, true, true, true, true, true, false, false, false]) 9 rfl (by kernel_rfl) (wn rfl) (by kernel_rfl) ?_
          refine e_store (vs := [.slice Aa ((l7.take 50).length) ca]) (cs' := [.int .i64 kd, .int .i64 fd, .int .i64 s0, .int .u32 s1, .bool b0, .slice A5 l5.length c5, .int .i64 s3, .slice Aa ((l7.take 50).length) ca]) (σ' := [⟨g6, true, .cells #[.int .i64 0, .int .i64 0, .int .i64 0, .int .u32 0, .bool false, .slice none 0 0, .int .i64 0, .slice none 0 0] 30 (0, 0)⟩, ⟨g2, true, .cells #[.int .i64 kd, .int .i64 fd, .int .i64 s0, .int .u32 s1, .bool b0, .slice A5 l5.length c5, .int .i64 s3, .slice Aa ((l7.take 50).length) ca] 30 (0, 0)⟩]) S177 rfl rfl rfl rfl sz_24 1 rfl (.inl rfl) rfl rfl rfl ?_
          intro w178 S179 E180
          have HRan := Aside0.mk (R_ext HRa.out E180 (S177.blk 1 rfl) (by decide))
          clear HRa
          have HRa := HRan
          clear HRan
          have HRbn := Aside0.mk (R_ext HRb.out E180 (S177.blk 1 rfl) (by decide))
          clear HRb
          have HRb := HRbn
          clear HRbn
          refine ⟨trivial, ?_⟩
          refine d_take (v := .pointer (some ⟨g2, 2, none⟩)) (listed' := #[true, true, true, true, true, true, true, true, true, true, true, false, false]) 10 rfl (by kernel_rfl) (by kernel_rfl) (by kernel_rfl) rfl (fun _ _ _ h => h) (wn rfl) (fun W hW => r_field fld_30_2 rfl rfl) trivial (by kernel_rfl) ?_
          refine d_take (v := .pointer (some ⟨g2, 4, none⟩)) (listed' := #[true, true, true, true, true, true, true, true, true, true, true, true, false]) 11 rfl (by kernel_rfl) (by kernel_rfl) (by kernel_rfl) rfl (fun _ _ _ h => h) (wn rfl) (fun W hW => r_field fld_28_2 rfl rfl) trivial (by kernel_rfl) ?_
          refine d_one (listed' := #[true, true, true, true, true, true, true, true, true, true, true, true, true]) 12 rfl (by kernel_rfl) (wn rfl) (by kernel_rfl) ?_
          refine e_store (vs := [.bool b0, .slice Ab l5.length cb]) (cs' := [.int .i64 kd, .int .i64 fd, .int .i64 s0, .int .u32 s1, .bool b0, .slice Ab l5.length cb, .int .i64 s3, .slice Aa ((l7.take 50).length) ca]) (σ' := [⟨g6, true, .cells #[.int .i64 0, .int .i64 0, .int .i64 0, .int .u32 0, .bool false, .slice none 0 0, .int .i64 0, .slice none 0 0] 30 (0, 0)⟩, ⟨g2, true, .cells #[.int .i64 kd, .int .i64 fd, .int .i64 s0, .int .u32 s1, .bool b0, .slice Ab l5.length cb, .int .i64 s3, .slice Aa ((l7.take 50).length) ca] 30 (0, 0)⟩]) S179 rfl rfl rfl rfl sz_26 1 rfl (.inl rfl) rfl rfl rfl ?_
          intro w181 S182 E183
          have HRan := Aside0.mk (R_ext HRa.out E183 (S179.blk 1 rfl) (by decide))
          clear HRa
          have HRa := HRan
          clear HRan
          have HRbn := Aside0.mk (R_ext HRb.out E183 (S179.blk 1 rfl) (by decide))
          clear HRb
          have HRb := HRbn
          clear HRbn
          refine ⟨trivial, ?_⟩
          refine d_done (by kernel_rfl) ?_
          refine x_seq ?_
          refine s_seq ?_
          refine s_region ?_
          refine q_val (v := .agg #[.int .i64 kd, .int .i64 fd, .int .i64 s0, .int .u32 s1, .bool b0, .slice Ab l5.length cb, .int .i64 s3, .slice Aa ((l7.take 50).length) ca]) (wn rfl) rfl (r_loadN (vs := [.int .i64 kd, .int .i64 fd, .int .i64 s0, .int .u32 s1, .bool b0, .slice Ab l5.length cb, .int .i64 s3, .slice Aa ((l7.take 50).length) ca]) sz_30 rfl (S182.blk 1 rfl) rfl rfl) ?_
          refine q_of (wn rfl) ?_
          refine e_store (vs := [.int .i64 kd, .int .i64 fd, .int .i64 s0, .int .u32 s1, .bool b0, .slice Ab l5.length cb, .int .i64 s3, .slice Aa ((l7.take 50).length) ca]) (cs' := [.int .i64 kd, .int .i64 fd, .int .i64 s0, .int .u32 s1, .bool b0, .slice Ab l5.length cb, .int .i64 s3, .slice Aa ((l7.take 50).length) ca]) (σ' := [⟨g6, true, .cells #[.int .i64 kd, .int .i64 fd, .int .i64 s0, .int .u32 s1, .bool b0, .slice Ab l5.length cb, .int .i64 s3, .slice Aa ((l7.take 50).length) ca] 30 (0, 0)⟩, ⟨g2, true, .cells #[.int .i64 kd, .int .i64 fd, .int .i64 s0, .int .u32 s1, .bool b0, .slice Ab l5.length cb, .int .i64 s3, .slice Aa ((l7.take 50).length) ca] 30 (0, 0)⟩]) S182 rfl rfl rfl rfl sz_30 0 rfl (.inl rfl) rfl rfl rfl ?_
          intro w184 S185 E186
          have HRan := Aside0.mk (R_ext HRa.out E186 (S182.blk 0 rfl) (by decide))
          clear HRa
          have HRa := HRan
          clear HRan
          have HRbn := Aside0.mk (R_ext HRb.out E186 (S182.blk 0 rfl) (by decide))
          clear HRb
          have HRb := HRbn
          clear HRbn
          refine q_nil ?_
          refine x_seq ?_
          refine s_ret ?_
          refine t_retc (cs := [.int .i64 kd, .int .i64 fd, .int .i64 s0, .int .u32 s1, .bool b0, .slice Ab l5.length cb, .int .i64 s3, .slice Aa ((l7.take 50).length) ca])  rfl rfl (S185.blk 0 rfl) sz_30 ?_
          have el7 : cut50 l7 = (l7.take 50) := by unfold cut50; first | rw [if_pos (by omega)] | rw [if_neg (by omega)]
          have el5 : cut50 l5 = l5 := by unfold cut50; first | rw [if_pos (by omega)] | rw [if_neg (by omega)]
          rw [el7, el5]
          exact ⟨_, _, rfl, Kd.R_lower HRb.out HBo, HRa.out, S185.ext.below⟩
      · skip
        refine e_val (v := .slice A7 50 c7) rfl (r_load1 sz_24 rfl (S142.cell 1 rfl rfl)) ?_
        refine ⟨trivial, ?_⟩
        refine d_two (listed' := #[true, true, true, false, true, true, false, false, false, false, false, false, false]) (listed'' := #[false, true, true, false, true, true, true, false, false, false, false, false, false]) 0 6 rfl rfl (by kernel_rfl) (wn rfl) (wn rfl) (by kernel_rfl) (by kernel_rfl) ?_ ?_
        · skip
          refine e_new (vf := fun g => .slice (some ⟨g, 0, none⟩) 0 0) (ob := .cells #[] 3) rfl S142 (r_buildSlice (ps := []) rfl (by kernel_rfl)) ?_
          intro g187 w188 hg187 S189 B190
          refine ⟨trivial, ?_⟩
          refine d_two (listed' := #[true, true, true, true, true, true, false, false, false, false, false, false, false]) (listed'' := #[true, true, true, false, true, true, true, false, false, false, false, false, false]) 3 6 rfl rfl (by kernel_rfl) (wn rfl) (wn rfl) (by kernel_rfl) (by kernel_rfl) ?_ ?_
          · skip
            have hC191 : Kd.C (Kd.int .i64) w188 A7 50 (l7.take 50) := by have h_ := C_take (Kd.C_below HC7.out S189.ext.below) 50; rw [take50 (by omega)] at h_; exact h_
            obtain ⟨v191, w191, hr191, HRa191, E191⟩ := append_row (c := c7) 24 (empty_row (base := w.heap.size) (S189.blk 0 rfl) (S189.own _ (List.mem_of_getElem? (i := 0) rfl) rfl)) hC191 (by first | (simp; done) | (simp; omega)) (S189.ext.size)
            rw [List.nil_append] at HRa191
            obtain ⟨Aa, ca, rfl⟩ := Kd.R_slice HRa191
            refine e_val (v := .slice Aa (l7.take 50).length ca) rfl (r_append rfl rfl hr191) ?_
            obtain ⟨S191, F191⟩ := St_app S189 E191
            have HRa := Aside0.mk HRa191
            refine ⟨trivial, ?_⟩
            refine d_one (listed' := #[true, true, true, true, true, true, true, false, false, false, false, false, false]) 6 rfl (by kernel_rfl) (wn rfl) (by kernel_rfl) ?_
            refine e_val (v := .agg #[.bool b0, .slice A5 l5.length c5]) rfl (r_loadN (vs := [.bool b0, .slice A5 l5.length c5]) sz_26 rfl (S191.blk 1 rfl) rfl rfl) ?_
            refine ⟨trivial, ?_⟩
            refine d_take (v := .pointer (some ⟨g2, 7, none⟩)) (listed' := #[true, true, true, true, true, true, true, false, true, false, false, false, false]) 8 rfl (by kernel_rfl) (by kernel_rfl) (by kernel_rfl) rfl (fun _ _ _ h => h) (wn rfl) (fun W hW => r_field fld_30_3 rfl rfl) trivial (by kernel_rfl) ?_
            refine d_one (listed' := #[true, true, true, true, true, true, true, true, true, false, false, false, false]) 7 rfl (by kernel_rfl) (wn rfl) (by kernel_rfl) ?_
            refine e_call (args := [.agg #[.bool b0, .slice A5 l5.length c5]]) Try.func38 (by kernel_rfl) rfl rfl ?_
            have hC5 := Kd.C_below HC5.out S191.ext.below
            refine (Own_at b0 A5 c5 l5 l5.length rfl _ hC5 (by omega) (by omega)).mono ?_
            rintro e w192 ⟨v, rfl, ho, hb⟩
            obtain ⟨Ab, cb, rfl⟩ := Kd.R_slice ho
            refine ⟨_, rfl, ?_⟩
            have B193 := hb
            have S194 := S191.call B193
            have HRan := Aside0.mk (R_below HRa.out B193)
            clear HRa
            have HRa := HRan
            clear HRan
            have HRb := Aside0.mk ho
            clear ho
            have HBo := S191.ext.size
            refine ⟨trivial, ?_⟩
            refine d_one (listed' := #[true, true, true, true, true, true, true, true, true, true, false, false, false]) 9 rfl (by kernel_rfl) (wn rfl) (by kernel_rfl) ?_
            refine e_store (vs := [.slice Aa ((l7.take 50).length) ca]) (cs' := [.int .i64 kd, .int .i64 fd, .int .i64 s0, .int .u32 s1, .bool b0, .slice A5 l5.length c5, .int .i64 s3, .slice Aa ((l7.take 50).length) ca]) (σ' := [⟨g6, true, .cells #[.int .i64 0, .int .i64 0, .int .i64 0, .int .u32 0, .bool false, .slice none 0 0, .int .i64 0, .slice none 0 0] 30 (0, 0)⟩, ⟨g2, true, .cells #[.int .i64 kd, .int .i64 fd, .int .i64 s0, .int .u32 s1, .bool b0, .slice A5 l5.length c5, .int .i64 s3, .slice Aa ((l7.take 50).length) ca] 30 (0, 0)⟩]) S194 rfl rfl rfl rfl sz_24 1 rfl (.inl rfl) rfl rfl rfl ?_
            intro w195 S196 E197
            have HRan := Aside0.mk (R_ext HRa.out E197 (S194.blk 1 rfl) (by decide))
            clear HRa
            have HRa := HRan
            clear HRan
            have HRbn := Aside0.mk (R_ext HRb.out E197 (S194.blk 1 rfl) (by decide))
            clear HRb
            have HRb := HRbn
            clear HRbn
            refine ⟨trivial, ?_⟩
            refine d_take (v := .pointer (some ⟨g2, 2, none⟩)) (listed' := #[true, true, true, true, true, true, true, true, true, true, true, false, false]) 10 rfl (by kernel_rfl) (by kernel_rfl) (by kernel_rfl) rfl (fun _ _ _ h => h) (wn rfl) (fun W hW => r_field fld_30_2 rfl rfl) trivial (by kernel_rfl) ?_
            refine d_take (v := .pointer (some ⟨g2, 4, none⟩)) (listed' := #[true, true, true, true, true, true, true, true, true, true, true, true, false]) 11 rfl (by kernel_rfl) (by kernel_rfl) (by kernel_rfl) rfl (fun _ _ _ h => h) (wn rfl) (fun W hW => r_field fld_28_2 rfl rfl) trivial (by kernel_rfl) ?_
            refine d_one (listed' := #[true, true, true, true, true, true, true, true, true, true, true, true, true]) 12 rfl (by kernel_rfl) (wn rfl) (by kernel_rfl) ?_
            refine e_store (vs := [.bool b0, .slice Ab l5.length cb]) (cs' := [.int .i64 kd, .int .i64 fd, .int .i64 s0, .int .u32 s1, .bool b0, .slice Ab l5.length cb, .int .i64 s3, .slice Aa ((l7.take 50).length) ca]) (σ' := [⟨g6, true, .cells #[.int .i64 0, .int .i64 0, .int .i64 0, .int .u32 0, .bool false, .slice none 0 0, .int .i64 0, .slice none 0 0] 30 (0, 0)⟩, ⟨g2, true, .cells #[.int .i64 kd, .int .i64 fd, .int .i64 s0, .int .u32 s1, .bool b0, .slice Ab l5.length cb, .int .i64 s3, .slice Aa ((l7.take 50).length) ca] 30 (0, 0)⟩]) S196 rfl rfl rfl rfl sz_26 1 rfl (.inl rfl) rfl rfl rfl ?_
            intro w198 S199 E200
            have HRan := Aside0.mk (R_ext HRa.out E200 (S196.blk 1 rfl) (by decide))
            clear HRa
            have HRa := HRan
            clear HRan
            have HRbn := Aside0.mk (R_ext HRb.out E200 (S196.blk 1 rfl) (by decide))
            clear HRb
            have HRb := HRbn
            clear HRbn
            refine ⟨trivial, ?_⟩
            refine d_done (by kernel_rfl) ?_
            refine x_seq ?_
            refine s_seq ?_
            refine s_region ?_
            refine q_val (v := .agg #[.int .i64 kd, .int .i64 fd, .int .i64 s0, .int .u32 s1, .bool b0, .slice Ab l5.length cb, .int .i64 s3, .slice Aa ((l7.take 50).length) ca]) (wn rfl) rfl (r_loadN (vs := [.int .i64 kd, .int .i64 fd, .int .i64 s0, .int .u32 s1, .bool b0, .slice Ab l5.length cb, .int .i64 s3, .slice Aa ((l7.take 50).length) ca]) sz_30 rfl (S199.blk 1 rfl) rfl rfl) ?_
            refine q_of (wn rfl) ?_
            refine e_store (vs := [.int .i64 kd, .int .i64 fd, .int .i64 s0, .int .u32 s1, .bool b0, .slice Ab l5.length cb, .int .i64 s3, .slice Aa ((l7.take 50).length) ca]) (cs' := [.int .i64 kd, .int .i64 fd, .int .i64 s0, .int .u32 s1, .bool b0, .slice Ab l5.length cb, .int .i64 s3, .slice Aa ((l7.take 50).length) ca]) (σ' := [⟨g6, true, .cells #[.int .i64 kd, .int .i64 fd, .int .i64 s0, .int .u32 s1, .bool b0, .slice Ab l5.length cb, .int .i64 s3, .slice Aa ((l7.take 50).length) ca] 30 (0, 0)⟩, ⟨g2, true, .cells #[.int .i64 kd, .int .i64 fd, .int .i64 s0, .int .u32 s1, .bool b0, .slice Ab l5.length cb, .int .i64 s3, .slice Aa ((l7.take 50).length) ca] 30 (0, 0)⟩]) S199 rfl rfl rfl rfl sz_30 0 rfl (.inl rfl) rfl rfl rfl ?_
            intro w201 S202 E203
            have HRan := Aside0.mk (R_ext HRa.out E203 (S199.blk 0 rfl) (by decide))
            clear HRa
            have HRa := HRan
            clear HRan
            have HRbn := Aside0.mk (R_ext HRb.out E203 (S199.blk 0 rfl) (by decide))
            clear HRb
            have HRb := HRbn
            clear HRbn
            refine q_nil ?_
            refine x_seq ?_
            refine s_ret ?_
            refine t_retc (cs := [.int .i64 kd, .int .i64 fd, .int .i64 s0, .int .u32 s1, .bool b0, .slice Ab l5.length cb, .int .i64 s3, .slice Aa ((l7.take 50).length) ca])  rfl rfl (S202.blk 0 rfl) sz_30 ?_
            have el7 : cut50 l7 = (l7.take 50) := by unfold cut50; first | rw [if_pos (by omega)] | rw [if_neg (by omega)]
            have el5 : cut50 l5 = l5 := by unfold cut50; first | rw [if_pos (by omega)] | rw [if_neg (by omega)]
            rw [el7, el5]
            exact ⟨_, _, rfl, Kd.R_lower HRb.out HBo, HRa.out, S202.ext.below⟩
          · skip
            refine e_val (v := .agg #[.bool b0, .slice A5 l5.length c5]) rfl (r_loadN (vs := [.bool b0, .slice A5 l5.length c5]) sz_26 rfl (S189.blk 2 rfl) rfl rfl) ?_
            refine ⟨trivial, ?_⟩
            refine d_one (listed' := #[true, true, true, true, true, true, true, false, false, false, false, false, false]) 3 rfl (by kernel_rfl) (wn rfl) (by kernel_rfl) ?_
            have hC204 : Kd.C (Kd.int .i64) w188 A7 50 (l7.take 50) := by have h_ := C_take (Kd.C_below HC7.out S189.ext.below) 50; rw [take50 (by omega)] at h_; exact h_
            obtain ⟨v204, w204, hr204, HRa204, E204⟩ := append_row (c := c7) 24 (empty_row (base := w.heap.size) (S189.blk 0 rfl) (S189.own _ (List.mem_of_getElem? (i := 0) rfl) rfl)) hC204 (by first | (simp; done) | (simp; omega)) (S189.ext.size)
            rw [List.nil_append] at HRa204
            obtain ⟨Aa, ca, rfl⟩ := Kd.R_slice HRa204
            refine e_val (v := .slice Aa (l7.take 50).length ca) rfl (r_append rfl rfl hr204) ?_
            obtain ⟨S204, F204⟩ := St_app S189 E204
            have HRa := Aside0.mk HRa204
            refine ⟨trivial, ?_⟩
            refine d_take (v := .pointer (some ⟨g2, 7, none⟩)) (listed' := #[true, true, true, true, true, true, true, false, true, false, false, false, false]) 8 rfl (by kernel_rfl) (by kernel_rfl) (by kernel_rfl) rfl (fun _ _ _ h => h) (wn rfl) (fun W hW => r_field fld_30_3 rfl rfl) trivial (by kernel_rfl) ?_
            refine d_one (listed' := #[true, true, true, true, true, true, true, true, true, false, false, false, false]) 7 rfl (by kernel_rfl) (wn rfl) (by kernel_rfl) ?_
            refine e_call (args := [.agg #[.bool b0, .slice A5 l5.length c5]]) Try.func38 (by kernel_rfl) rfl rfl ?_
            have hC5 := Kd.C_below HC5.out S204.ext.below
            refine (Own_at b0 A5 c5 l5 l5.length rfl _ hC5 (by omega) (by omega)).mono ?_
            rintro e w205 ⟨v, rfl, ho, hb⟩
            obtain ⟨Ab, cb, rfl⟩ := Kd.R_slice ho
            refine ⟨_, rfl, ?_⟩
            have B206 := hb
            have S207 := S204.call B206
            have HRan := Aside0.mk (R_below HRa.out B206)
            clear HRa
            have HRa := HRan
            clear HRan
            have HRb := Aside0.mk ho
            clear ho
            have HBo := S204.ext.size
            refine ⟨trivial, ?_⟩
            refine d_one (listed' := #[true, true, true, true, true, true, true, true, true, true, false, false, false]) 9 rfl (by kernel_rfl) (wn rfl) (by kernel_rfl) ?_
            refine e_store (vs := [.slice Aa ((l7.take 50).length) ca]) (cs' := [.int .i64 kd, .int .i64 fd, .int .i64 s0, .int .u32 s1, .bool b0, .slice A5 l5.length c5, .int .i64 s3, .slice Aa ((l7.take 50).length) ca]) (σ' := [⟨g6, true, .cells #[.int .i64 0, .int .i64 0, .int .i64 0, .int .u32 0, .bool false, .slice none 0 0, .int .i64 0, .slice none 0 0] 30 (0, 0)⟩, ⟨g2, true, .cells #[.int .i64 kd, .int .i64 fd, .int .i64 s0, .int .u32 s1, .bool b0, .slice A5 l5.length c5, .int .i64 s3, .slice Aa ((l7.take 50).length) ca] 30 (0, 0)⟩]) S207 rfl rfl rfl rfl sz_24 1 rfl (.inl rfl) rfl rfl rfl ?_
            intro w208 S209 E210
            have HRan := Aside0.mk (R_ext HRa.out E210 (S207.blk 1 rfl) (by decide))
            clear HRa
            have HRa := HRan
            clear HRan
            have HRbn := Aside0.mk (R_ext HRb.out E210 (S207.blk 1 rfl) (by decide))
            clear HRb
            have HRb := HRbn
            clear HRbn
            refine ⟨trivial, ?_⟩
            refine d_take (v := .pointer (some ⟨g2, 2, none⟩)) (listed' := #[true, true, true, true, true, true, true, true, true, true, true, false, false]) 10 rfl (by kernel_rfl) (by kernel_rfl) (by kernel_rfl) rfl (fun _ _ _ h => h) (wn rfl) (fun W hW => r_field fld_30_2 rfl rfl) trivial (by kernel_rfl) ?_
            refine d_take (v := .pointer (some ⟨g2, 4, none⟩)) (listed' := #[true, true, true, true, true, true, true, true, true, true, true, true, false]) 11 rfl (by kernel_rfl) (by kernel_rfl) (by kernel_rfl) rfl (fun _ _ _ h => h) (wn rfl) (fun W hW => r_field fld_28_2 rfl rfl) trivial (by kernel_rfl) ?_
            refine d_one (listed' := #[true, true, true, true, true, true, true, true, true, true, true, true, true]) 12 rfl (by kernel_rfl) (wn rfl) (by kernel_rfl) ?_
            refine e_store (vs := [.bool b0, .slice Ab l5.length cb]) (cs' := [.int .i64 kd, .int .i64 fd, .int .i64 s0, .int .u32 s1, .bool b0, .slice Ab l5.length cb, .int .i64 s3, .slice Aa ((l7.take 50).length) ca]) (σ' := [⟨g6, true, .cells #[.int .i64 0, .int .i64 0, .int .i64 0, .int .u32 0, .bool false, .slice none 0 0, .int .i64 0, .slice none 0 0] 30 (0, 0)⟩, ⟨g2, true, .cells #[.int .i64 kd, .int .i64 fd, .int .i64 s0, .int .u32 s1, .bool b0, .slice Ab l5.length cb, .int .i64 s3, .slice Aa ((l7.take 50).length) ca] 30 (0, 0)⟩]) S209 rfl rfl rfl rfl sz_26 1 rfl (.inl rfl) rfl rfl rfl ?_
            intro w211 S212 E213
            have HRan := Aside0.mk (R_ext HRa.out E213 (S209.blk 1 rfl) (by decide))
            clear HRa
            have HRa := HRan
            clear HRan
            have HRbn := Aside0.mk (R_ext HRb.out E213 (S209.blk 1 rfl) (by decide))
            clear HRb
            have HRb := HRbn
            clear HRbn
            refine ⟨trivial, ?_⟩
            refine d_done (by kernel_rfl) ?_
            refine x_seq ?_
            refine s_seq ?_
            refine s_region ?_
            refine q_val (v := .agg #[.int .i64 kd, .int .i64 fd, .int .i64 s0, .int .u32 s1, .bool b0, .slice Ab l5.length cb, .int .i64 s3, .slice Aa ((l7.take 50).length) ca]) (wn rfl) rfl (r_loadN (vs := [.int .i64 kd, .int .i64 fd, .int .i64 s0, .int .u32 s1, .bool b0, .slice Ab l5.length cb, .int .i64 s3, .slice Aa ((l7.take 50).length) ca]) sz_30 rfl (S212.blk 1 rfl) rfl rfl) ?_
            refine q_of (wn rfl) ?_
            refine e_store (vs := [.int .i64 kd, .int .i64 fd, .int .i64 s0, .int .u32 s1, .bool b0, .slice Ab l5.length cb, .int .i64 s3, .slice Aa ((l7.take 50).length) ca]) (cs' := [.int .i64 kd, .int .i64 fd, .int .i64 s0, .int .u32 s1, .bool b0, .slice Ab l5.length cb, .int .i64 s3, .slice Aa ((l7.take 50).length) ca]) (σ' := [⟨g6, true, .cells #[.int .i64 kd, .int .i64 fd, .int .i64 s0, .int .u32 s1, .bool b0, .slice Ab l5.length cb, .int .i64 s3, .slice Aa ((l7.take 50).length) ca] 30 (0, 0)⟩, ⟨g2, true, .cells #[.int .i64 kd, .int .i64 fd, .int .i64 s0, .int .u32 s1, .bool b0, .slice Ab l5.length cb, .int .i64 s3, .slice Aa ((l7.take 50).length) ca] 30 (0, 0)⟩]) S212 rfl rfl rfl rfl sz_30 0 rfl (.inl rfl) rfl rfl rfl ?_
            intro w214 S215 E216
            have HRan := Aside0.mk (R_ext HRa.out E216 (S212.blk 0 rfl) (by decide))
            clear HRa
            have HRa := HRan
            clear HRan
            have HRbn := Aside0.mk (R_ext HRb.out E216 (S212.blk 0 rfl) (by decide))
            clear HRb
            have HRb := HRbn
            clear HRbn
            refine q_nil ?_
            refine x_seq ?_
            refine s_ret ?_
            refine t_retc (cs := [.int .i64 kd, .int .i64 fd, .int .i64 s0, .int .u32 s1, .bool b0, .slice Ab l5.length cb, .int .i64 s3, .slice Aa ((l7.take 50).length) ca])  rfl rfl (S215.blk 0 rfl) sz_30 ?_
            have el7 : cut50 l7 = (l7.take 50) := by unfold cut50; first | rw [if_pos (by omega)] | rw [if_neg (by omega)]
            have el5 : cut50 l5 = l5 := by unfold cut50; first | rw [if_pos (by omega)] | rw [if_neg (by omega)]
            rw [el7, el5]
            exact ⟨_, _, rfl, Kd.R_lower HRb.out HBo, HRa.out, S215.ext.below⟩
        · skip
          refine e_val (v := .agg #[.bool b0, .slice A5 l5.length c5]) rfl (r_loadN (vs := [.bool b0, .slice A5 l5.length c5]) sz_26 rfl (S142.blk 1 rfl) rfl rfl) ?_
          refine ⟨trivial, ?_⟩
          refine d_one (listed' := #[true, true, true, false, true, true, true, false, false, false, false, false, false]) 0 rfl (by kernel_rfl) (wn rfl) (by kernel_rfl) ?_
          refine e_new (vf := fun g => .slice (some ⟨g, 0, none⟩) 0 0) (ob := .cells #[] 3) rfl S142 (r_buildSlice (ps := []) rfl (by kernel_rfl)) ?_
          intro g217 w218 hg217 S219 B220
          refine ⟨trivial, ?_⟩
          refine d_one (listed' := #[true, true, true, true, true, true, true, false, false, false, false, false, false]) 3 rfl (by kernel_rfl) (wn rfl) (by kernel_rfl) ?_
          have hC221 : Kd.C (Kd.int .i64) w218 A7 50 (l7.take 50) := by have h_ := C_take (Kd.C_below HC7.out S219.ext.below) 50; rw [take50 (by omega)] at h_; exact h_
          obtain ⟨v221, w221, hr221, HRa221, E221⟩ := append_row (c := c7) 24 (empty_row (base := w.heap.size) (S219.blk 0 rfl) (S219.own _ (List.mem_of_getElem? (i := 0) rfl) rfl)) hC221 (by first | (simp; done) | (simp; omega)) (S219.ext.size)
          rw [List.nil_append] at HRa221
          obtain ⟨Aa, ca, rfl⟩ := Kd.R_slice HRa221
          refine e_val (v := .slice Aa (l7.take 50).length ca) rfl (r_append rfl rfl hr221) ?_
          obtain ⟨S221, F221⟩ := St_app S219 E221
          have HRa := Aside0.mk HRa221
          refine ⟨trivial, ?_⟩
          refine d_take (v := .pointer (some ⟨g2, 7, none⟩)) (listed' := #[true, true, true, true, true, true, true, false, true, false, false, false, false]) 8 rfl (by kernel_rfl) (by kernel_rfl) (by kernel_rfl) rfl (fun _ _ _ h => h) (wn rfl) (fun W hW => r_field fld_30_3 rfl rfl) trivial (by kernel_rfl) ?_
          refine d_one (listed' := #[true, true, true, true, true, true, true, true, true, false, false, false, false]) 7 rfl (by kernel_rfl) (wn rfl) (by kernel_rfl) ?_
          refine e_call (args := [.agg #[.bool b0, .slice A5 l5.length c5]]) Try.func38 (by kernel_rfl) rfl rfl ?_
          have hC5 := Kd.C_below HC5.out S221.ext.below
          refine (Own_at b0 A5 c5 l5 l5.length rfl _ hC5 (by omega) (by omega)).mono ?_
          rintro e w222 ⟨v, rfl, ho, hb⟩
          obtain ⟨Ab, cb, rfl⟩ := Kd.R_slice ho
          refine ⟨_, rfl, ?_⟩
          have B223 := hb
          have S224 := S221.call B223
          have HRan := Aside0.mk (R_below HRa.out B223)
          clear HRa
          have HRa := HRan
          clear HRan
          have HRb := Aside0.mk ho
          clear ho
          have HBo := S221.ext.size
          refine ⟨trivial, ?_⟩
          refine d_one (listed' := #[true, true, true, true, true, true, true, true, true, true, false, false, false]) 9 rfl (by kernel_rfl) (wn rfl) (by kernel_rfl) ?_
          refine e_store (vs := [.slice Aa ((l7.take 50).length) ca]) (cs' := [.int .i64 kd, .int .i64 fd, .int .i64 s0, .int .u32 s1, .bool b0, .slice A5 l5.length c5, .int .i64 s3, .slice Aa ((l7.take 50).length) ca]) (σ' := [⟨g6, true, .cells #[.int .i64 0, .int .i64 0, .int .i64 0, .int .u32 0, .bool false, .slice none 0 0, .int .i64 0, .slice none 0 0] 30 (0, 0)⟩, ⟨g2, true, .cells #[.int .i64 kd, .int .i64 fd, .int .i64 s0, .int .u32 s1, .bool b0, .slice A5 l5.length c5, .int .i64 s3, .slice Aa ((l7.take 50).length) ca] 30 (0, 0)⟩]) S224 rfl rfl rfl rfl sz_24 1 rfl (.inl rfl) rfl rfl rfl ?_
          intro w225 S226 E227
          have HRan := Aside0.mk (R_ext HRa.out E227 (S224.blk 1 rfl) (by decide))
          clear HRa
          have HRa := HRan
          clear HRan
          have HRbn := Aside0.mk (R_ext HRb.out E227 (S224.blk 1 rfl) (by decide))
          clear HRb
          have HRb := HRbn
          clear HRbn
          refine ⟨trivial, ?_⟩
          refine d_take (v := .pointer (some ⟨g2, 2, none⟩)) (listed' := #[true, true, true, true, true, true, true, true, true, true, true, false, false]) 10 rfl (by kernel_rfl) (by kernel_rfl) (by kernel_rfl) rfl (fun _ _ _ h => h) (wn rfl) (fun W hW => r_field fld_30_2 rfl rfl) trivial (by kernel_rfl) ?_
          refine d_take (v := .pointer (some ⟨g2, 4, none⟩)) (listed' := #[true, true, true, true, true, true, true, true, true, true, true, true, false]) 11 rfl (by kernel_rfl) (by kernel_rfl) (by kernel_rfl) rfl (fun _ _ _ h => h) (wn rfl) (fun W hW => r_field fld_28_2 rfl rfl) trivial (by kernel_rfl) ?_
          refine d_one (listed' := #[true, true, true, true, true, true, true, true, true, true, true, true, true]) 12 rfl (by kernel_rfl) (wn rfl) (by kernel_rfl) ?_
          refine e_store (vs := [.bool b0, .slice Ab l5.length cb]) (cs' := [.int .i64 kd, .int .i64 fd, .int .i64 s0, .int .u32 s1, .bool b0, .slice Ab l5.length cb, .int .i64 s3, .slice Aa ((l7.take 50).length) ca]) (σ' := [⟨g6, true, .cells #[.int .i64 0, .int .i64 0, .int .i64 0, .int .u32 0, .bool false, .slice none 0 0, .int .i64 0, .slice none 0 0] 30 (0, 0)⟩, ⟨g2, true, .cells #[.int .i64 kd, .int .i64 fd, .int .i64 s0, .int .u32 s1, .bool b0, .slice Ab l5.length cb, .int .i64 s3, .slice Aa ((l7.take 50).length) ca] 30 (0, 0)⟩]) S226 rfl rfl rfl rfl sz_26 1 rfl (.inl rfl) rfl rfl rfl ?_
          intro w228 S229 E230
          have HRan := Aside0.mk (R_ext HRa.out E230 (S226.blk 1 rfl) (by decide))
          clear HRa
          have HRa := HRan
          clear HRan
          have HRbn := Aside0.mk (R_ext HRb.out E230 (S226.blk 1 rfl) (by decide))
          clear HRb
          have HRb := HRbn
          clear HRbn
          refine ⟨trivial, ?_⟩
          refine d_done (by kernel_rfl) ?_
          refine x_seq ?_
          refine s_seq ?_
          refine s_region ?_
          refine q_val (v := .agg #[.int .i64 kd, .int .i64 fd, .int .i64 s0, .int .u32 s1, .bool b0, .slice Ab l5.length cb, .int .i64 s3, .slice Aa ((l7.take 50).length) ca]) (wn rfl) rfl (r_loadN (vs := [.int .i64 kd, .int .i64 fd, .int .i64 s0, .int .u32 s1, .bool b0, .slice Ab l5.length cb, .int .i64 s3, .slice Aa ((l7.take 50).length) ca]) sz_30 rfl (S229.blk 1 rfl) rfl rfl) ?_
          refine q_of (wn rfl) ?_
          refine e_store (vs := [.int .i64 kd, .int .i64 fd, .int .i64 s0, .int .u32 s1, .bool b0, .slice Ab l5.length cb, .int .i64 s3, .slice Aa ((l7.take 50).length) ca]) (cs' := [.int .i64 kd, .int .i64 fd, .int .i64 s0, .int .u32 s1, .bool b0, .slice Ab l5.length cb, .int .i64 s3, .slice Aa ((l7.take 50).length) ca]) (σ' := [⟨g6, true, .cells #[.int .i64 kd, .int .i64 fd, .int .i64 s0, .int .u32 s1, .bool b0, .slice Ab l5.length cb, .int .i64 s3, .slice Aa ((l7.take 50).length) ca] 30 (0, 0)⟩, ⟨g2, true, .cells #[.int .i64 kd, .int .i64 fd, .int .i64 s0, .int .u32 s1, .bool b0, .slice Ab l5.length cb, .int .i64 s3, .slice Aa ((l7.take 50).length) ca] 30 (0, 0)⟩]) S229 rfl rfl rfl rfl sz_30 0 rfl (.inl rfl) rfl rfl rfl ?_
          intro w231 S232 E233
          have HRan := Aside0.mk (R_ext HRa.out E233 (S229.blk 0 rfl) (by decide))
          clear HRa
          have HRa := HRan
          clear HRan
          have HRbn := Aside0.mk (R_ext HRb.out E233 (S229.blk 0 rfl) (by decide))
          clear HRb
          have HRb := HRbn
          clear HRbn
          refine q_nil ?_
          refine x_seq ?_
          refine s_ret ?_
          refine t_retc (cs := [.int .i64 kd, .int .i64 fd, .int .i64 s0, .int .u32 s1, .bool b0, .slice Ab l5.length cb, .int .i64 s3, .slice Aa ((l7.take 50).length) ca])  rfl rfl (S232.blk 0 rfl) sz_30 ?_
          have el7 : cut50 l7 = (l7.take 50) := by unfold cut50; first | rw [if_pos (by omega)] | rw [if_neg (by omega)]
          have el5 : cut50 l5 = l5 := by unfold cut50; first | rw [if_pos (by omega)] | rw [if_neg (by omega)]
          rw [el7, el5]
          exact ⟨_, _, rfl, Kd.R_lower HRb.out HBo, HRa.out, S232.ext.below⟩
      · skip
        refine e_val (v := .agg #[.bool b0, .slice A5 l5.length c5]) rfl (r_loadN (vs := [.bool b0, .slice A5 l5.length c5]) sz_26 rfl (S142.blk 1 rfl) rfl rfl) ?_
        refine ⟨trivial, ?_⟩
        refine d_two (listed' := #[true, true, false, false, true, true, true, false, false, false, false, false, false]) (listed'' := #[false, true, true, false, true, true, true, false, false, false, false, false, false]) 0 2 rfl rfl (by kernel_rfl) (wn rfl) (wn rfl) (by kernel_rfl) (by kernel_rfl) ?_ ?_
        · skip
          refine e_new (vf := fun g => .slice (some ⟨g, 0, none⟩) 0 0) (ob := .cells #[] 3) rfl S142 (r_buildSlice (ps := []) rfl (by kernel_rfl)) ?_
          intro g234 w235 hg234 S236 B237
          refine ⟨trivial, ?_⟩
          refine d_one (listed' := #[true, true, true, false, true, true, true, false, false, false, false, false, false]) 2 rfl (by kernel_rfl) (wn rfl) (by kernel_rfl) ?_
          refine e_val (v := .slice A7 50 c7) rfl (r_load1 sz_24 rfl (S236.cell 2 rfl rfl)) ?_
          refine ⟨trivial, ?_⟩
          refine d_one (listed' := #[true, true, true, true, true, true, true, false, false, false, false, false, false]) 3 rfl (by kernel_rfl) (wn rfl) (by kernel_rfl) ?_
          have hC238 : Kd.C (Kd.int .i64) w235 A7 50 (l7.take 50) := by have h_ := C_take (Kd.C_below HC7.out S236.ext.below) 50; rw [take50 (by omega)] at h_; exact h_
          obtain ⟨v238, w238, hr238, HRa238, E238⟩ := append_row (c := c7) 24 (empty_row (base := w.heap.size) (S236.blk 0 rfl) (S236.own _ (List.mem_of_getElem? (i := 0) rfl) rfl)) hC238 (by first | (simp; done) | (simp; omega)) (S236.ext.size)
          rw [List.nil_append] at HRa238
          obtain ⟨Aa, ca, rfl⟩ := Kd.R_slice HRa238
          refine e_val (v := .slice Aa (l7.take 50).length ca) rfl (r_append rfl rfl hr238) ?_
          obtain ⟨S238, F238⟩ := St_app S236 E238
          have HRa := Aside0.mk HRa238
          refine ⟨trivial, ?_⟩
          refine d_take (v := .pointer (some ⟨g2, 7, none⟩)) (listed' := #[true, true, true, true, true, true, true, false, true, false, false, false, false]) 8 rfl (by kernel_rfl) (by kernel_rfl) (by kernel_rfl) rfl (fun _ _ _ h => h) (wn rfl) (fun W hW => r_field fld_30_3 rfl rfl) trivial (by kernel_rfl) ?_
          refine d_one (listed' := #[true, true, true, true, true, true, true, true, true, false, false, false, false]) 7 rfl (by kernel_rfl) (wn rfl) (by kernel_rfl) ?_
          refine e_call (args := [.agg #[.bool b0, .slice A5 l5.length c5]]) Try.func38 (by kernel_rfl) rfl rfl ?_
          have hC5 := Kd.C_below HC5.out S238.ext.below
          refine (Own_at b0 A5 c5 l5 l5.length rfl _ hC5 (by omega) (by omega)).mono ?_
          rintro e w239 ⟨v, rfl, ho, hb⟩
          obtain ⟨Ab, cb, rfl⟩ := Kd.R_slice ho
          refine ⟨_, rfl, ?_⟩
          have B240 := hb
          have S241 := S238.call B240
          have HRan := Aside0.mk (R_below HRa.out B240)
          clear HRa
          have HRa := HRan
          clear HRan
          have HRb := Aside0.mk ho
          clear ho
          have HBo := S238.ext.size
          refine ⟨trivial, ?_⟩
          refine d_one (listed' := #[true, true, true, true, true, true, true, true, true, true, false, false, false]) 9 rfl (by kernel_rfl) (wn rfl) (by kernel_rfl) ?_
          refine e_store (vs := [.slice Aa ((l7.take 50).length) ca]) (cs' := [.int .i64 kd, .int .i64 fd, .int .i64 s0, .int .u32 s1, .bool b0, .slice A5 l5.length c5, .int .i64 s3, .slice Aa ((l7.take 50).length) ca]) (σ' := [⟨g6, true, .cells #[.int .i64 0, .int .i64 0, .int .i64 0, .int .u32 0, .bool false, .slice none 0 0, .int .i64 0, .slice none 0 0] 30 (0, 0)⟩, ⟨g2, true, .cells #[.int .i64 kd, .int .i64 fd, .int .i64 s0, .int .u32 s1, .bool b0, .slice A5 l5.length c5, .int .i64 s3, .slice Aa ((l7.take 50).length) ca] 30 (0, 0)⟩]) S241 rfl rfl rfl rfl sz_24 1 rfl (.inl rfl) rfl rfl rfl ?_
          intro w242 S243 E244
          have HRan := Aside0.mk (R_ext HRa.out E244 (S241.blk 1 rfl) (by decide))
          clear HRa
          have HRa := HRan
          clear HRan
          have HRbn := Aside0.mk (R_ext HRb.out E244 (S241.blk 1 rfl) (by decide))
          clear HRb
          have HRb := HRbn
          clear HRbn
          refine ⟨trivial, ?_⟩
          refine d_take (v := .pointer (some ⟨g2, 2, none⟩)) (listed' := #[true, true, true, true, true, true, true, true, true, true, true, false, false]) 10 rfl (by kernel_rfl) (by kernel_rfl) (by kernel_rfl) rfl (fun _ _ _ h => h) (wn rfl) (fun W hW => r_field fld_30_2 rfl rfl) trivial (by kernel_rfl) ?_
          refine d_take (v := .pointer (some ⟨g2, 4, none⟩)) (listed' := #[true, true, true, true, true, true, true, true, true, true, true, true, false]) 11 rfl (by kernel_rfl) (by kernel_rfl) (by kernel_rfl) rfl (fun _ _ _ h => h) (wn rfl) (fun W hW => r_field fld_28_2 rfl rfl) trivial (by kernel_rfl) ?_
          refine d_one (listed' := #[true, true, true, true, true, true, true, true, true, true, true, true, true]) 12 rfl (by kernel_rfl) (wn rfl) (by kernel_rfl) ?_
          refine e_store (vs := [.bool b0, .slice Ab l5.length cb]) (cs' := [.int .i64 kd, .int .i64 fd, .int .i64 s0, .int .u32 s1, .bool b0, .slice Ab l5.length cb, .int .i64 s3, .slice Aa ((l7.take 50).length) ca]) (σ' := [⟨g6, true, .cells #[.int .i64 0, .int .i64 0, .int .i64 0, .int .u32 0, .bool false, .slice none 0 0, .int .i64 0, .slice none 0 0] 30 (0, 0)⟩, ⟨g2, true, .cells #[.int .i64 kd, .int .i64 fd, .int .i64 s0, .int .u32 s1, .bool b0, .slice Ab l5.length cb, .int .i64 s3, .slice Aa ((l7.take 50).length) ca] 30 (0, 0)⟩]) S243 rfl rfl rfl rfl sz_26 1 rfl (.inl rfl) rfl rfl rfl ?_
          intro w245 S246 E247
          have HRan := Aside0.mk (R_ext HRa.out E247 (S243.blk 1 rfl) (by decide))
          clear HRa
          have HRa := HRan
          clear HRan
          have HRbn := Aside0.mk (R_ext HRb.out E247 (S243.blk 1 rfl) (by decide))
          clear HRb
          have HRb := HRbn
          clear HRbn
          refine ⟨trivial, ?_⟩
          refine d_done (by kernel_rfl) ?_
          refine x_seq ?_
          refine s_seq ?_
          refine s_region ?_
          refine q_val (v := .agg #[.int .i64 kd, .int .i64 fd, .int .i64 s0, .int .u32 s1, .bool b0, .slice Ab l5.length cb, .int .i64 s3, .slice Aa ((l7.take 50).length) ca]) (wn rfl) rfl (r_loadN (vs := [.int .i64 kd, .int .i64 fd, .int .i64 s0, .int .u32 s1, .bool b0, .slice Ab l5.length cb, .int .i64 s3, .slice Aa ((l7.take 50).length) ca]) sz_30 rfl (S246.blk 1 rfl) rfl rfl) ?_
          refine q_of (wn rfl) ?_
          refine e_store (vs := [.int .i64 kd, .int .i64 fd, .int .i64 s0, .int .u32 s1, .bool b0, .slice Ab l5.length cb, .int .i64 s3, .slice Aa ((l7.take 50).length) ca]) (cs' := [.int .i64 kd, .int .i64 fd, .int .i64 s0, .int .u32 s1, .bool b0, .slice Ab l5.length cb, .int .i64 s3, .slice Aa ((l7.take 50).length) ca]) (σ' := [⟨g6, true, .cells #[.int .i64 kd, .int .i64 fd, .int .i64 s0, .int .u32 s1, .bool b0, .slice Ab l5.length cb, .int .i64 s3, .slice Aa ((l7.take 50).length) ca] 30 (0, 0)⟩, ⟨g2, true, .cells #[.int .i64 kd, .int .i64 fd, .int .i64 s0, .int .u32 s1, .bool b0, .slice Ab l5.length cb, .int .i64 s3, .slice Aa ((l7.take 50).length) ca] 30 (0, 0)⟩]) S246 rfl rfl rfl rfl sz_30 0 rfl (.inl rfl) rfl rfl rfl ?_
          intro w248 S249 E250
          have HRan := Aside0.mk (R_ext HRa.out E250 (S246.blk 0 rfl) (by decide))
          clear HRa
          have HRa := HRan
          clear HRan
          have HRbn := Aside0.mk (R_ext HRb.out E250 (S246.blk 0 rfl) (by decide))
          clear HRb
          have HRb := HRbn
          clear HRbn
          refine q_nil ?_
          refine x_seq ?_
          refine s_ret ?_
          refine t_retc (cs := [.int .i64 kd, .int .i64 fd, .int .i64 s0, .int .u32 s1, .bool b0, .slice Ab l5.length cb, .int .i64 s3, .slice Aa ((l7.take 50).length) ca])  rfl rfl (S249.blk 0 rfl) sz_30 ?_
          have el7 : cut50 l7 = (l7.take 50) := by unfold cut50; first | rw [if_pos (by omega)] | rw [if_neg (by omega)]
          have el5 : cut50 l5 = l5 := by unfold cut50; first | rw [if_pos (by omega)] | rw [if_neg (by omega)]
          rw [el7, el5]
          exact ⟨_, _, rfl, Kd.R_lower HRb.out HBo, HRa.out, S249.ext.below⟩
        · skip
          refine e_val (v := .slice A7 50 c7) rfl (r_load1 sz_24 rfl (S142.cell 1 rfl rfl)) ?_
          refine ⟨trivial, ?_⟩
          refine d_one (listed' := #[true, true, true, false, true, true, true, false, false, false, false, false, false]) 0 rfl (by kernel_rfl) (wn rfl) (by kernel_rfl) ?_
          refine e_new (vf := fun g => .slice (some ⟨g, 0, none⟩) 0 0) (ob := .cells #[] 3) rfl S142 (r_buildSlice (ps := []) rfl (by kernel_rfl)) ?_
          intro g251 w252 hg251 S253 B254
          refine ⟨trivial, ?_⟩
          refine d_one (listed' := #[true, true, true, true, true, true, true, false, false, false, false, false, false]) 3 rfl (by kernel_rfl) (wn rfl) (by kernel_rfl) ?_
          have hC255 : Kd.C (Kd.int .i64) w252 A7 50 (l7.take 50) := by have h_ := C_take (Kd.C_below HC7.out S253.ext.below) 50; rw [take50 (by omega)] at h_; exact h_
          obtain ⟨v255, w255, hr255, HRa255, E255⟩ := append_row (c := c7) 24 (empty_row (base := w.heap.size) (S253.blk 0 rfl) (S253.own _ (List.mem_of_getElem? (i := 0) rfl) rfl)) hC255 (by first | (simp; done) | (simp; omega)) (S253.ext.size)
          rw [List.nil_append] at HRa255
          obtain ⟨Aa, ca, rfl⟩ := Kd.R_slice HRa255
          refine e_val (v := .slice Aa (l7.take 50).length ca) rfl (r_append rfl rfl hr255) ?_
          obtain ⟨S255, F255⟩ := St_app S253 E255
          have HRa := Aside0.mk HRa255
          refine ⟨trivial, ?_⟩
          refine d_take (v := .pointer (some ⟨g2, 7, none⟩)) (listed' := #[true, true, true, true, true, true, true, false, true, false, false, false, false]) 8 rfl (by kernel_rfl) (by kernel_rfl) (by kernel_rfl) rfl (fun _ _ _ h => h) (wn rfl) (fun W hW => r_field fld_30_3 rfl rfl) trivial (by kernel_rfl) ?_
          refine d_one (listed' := #[true, true, true, true, true, true, true, true, true, false, false, false, false]) 7 rfl (by kernel_rfl) (wn rfl) (by kernel_rfl) ?_
          refine e_call (args := [.agg #[.bool b0, .slice A5 l5.length c5]]) Try.func38 (by kernel_rfl) rfl rfl ?_
          have hC5 := Kd.C_below HC5.out S255.ext.below
          refine (Own_at b0 A5 c5 l5 l5.length rfl _ hC5 (by omega) (by omega)).mono ?_
          rintro e w256 ⟨v, rfl, ho, hb⟩
          obtain ⟨Ab, cb, rfl⟩ := Kd.R_slice ho
          refine ⟨_, rfl, ?_⟩
          have B257 := hb
          have S258 := S255.call B257
          have HRan := Aside0.mk (R_below HRa.out B257)
          clear HRa
          have HRa := HRan
          clear HRan
          have HRb := Aside0.mk ho
          clear ho
          have HBo := S255.ext.size
          refine ⟨trivial, ?_⟩
          refine d_one (listed' := #[true, true, true, true, true, true, true, true, true, true, false, false, false]) 9 rfl (by kernel_rfl) (wn rfl) (by kernel_rfl) ?_
          refine e_store (vs := [.slice Aa ((l7.take 50).length) ca]) (cs' := [.int .i64 kd, .int .i64 fd, .int .i64 s0, .int .u32 s1, .bool b0, .slice A5 l5.length c5, .int .i64 s3, .slice Aa ((l7.take 50).length) ca]) (σ' := [⟨g6, true, .cells #[.int .i64 0, .int .i64 0, .int .i64 0, .int .u32 0, .bool false, .slice none 0 0, .int .i64 0, .slice none 0 0] 30 (0, 0)⟩, ⟨g2, true, .cells #[.int .i64 kd, .int .i64 fd, .int .i64 s0, .int .u32 s1, .bool b0, .slice A5 l5.length c5, .int .i64 s3, .slice Aa ((l7.take 50).length) ca] 30 (0, 0)⟩]) S258 rfl rfl rfl rfl sz_24 1 rfl (.inl rfl) rfl rfl rfl ?_
          intro w259 S260 E261
          have HRan := Aside0.mk (R_ext HRa.out E261 (S258.blk 1 rfl) (by decide))
          clear HRa
          have HRa := HRan
          clear HRan
          have HRbn := Aside0.mk (R_ext HRb.out E261 (S258.blk 1 rfl) (by decide))
          clear HRb
          have HRb := HRbn
          clear HRbn
          refine ⟨trivial, ?_⟩
          refine d_take (v := .pointer (some ⟨g2, 2, none⟩)) (listed' := #[true, true, true, true, true, true, true, true, true, true, true, false, false]) 10 rfl (by kernel_rfl) (by kernel_rfl) (by kernel_rfl) rfl (fun _ _ _ h => h) (wn rfl) (fun W hW => r_field fld_30_2 rfl rfl) trivial (by kernel_rfl) ?_
          refine d_take (v := .pointer (some ⟨g2, 4, none⟩)) (listed' := #[true, true, true, true, true, true, true, true, true, true, true, true, false]) 11 rfl (by kernel_rfl) (by kernel_rfl) (by kernel_rfl) rfl (fun _ _ _ h => h) (wn rfl) (fun W hW => r_field fld_28_2 rfl rfl) trivial (by kernel_rfl) ?_
          refine d_one (listed' := #[true, true, true, true, true, true, true, true, true, true, true, true, true]) 12 rfl (by kernel_rfl) (wn rfl) (by kernel_rfl) ?_
          refine e_store (vs := [.bool b0, .slice Ab l5.length cb]) (cs' := [.int .i64 kd, .int .i64 fd, .int .i64 s0, .int .u32 s1, .bool b0, .slice Ab l5.length cb, .int .i64 s3, .slice Aa ((l7.take 50).length) ca]) (σ' := [⟨g6, true, .cells #[.int .i64 0, .int .i64 0, .int .i64 0, .int .u32 0, .bool false, .slice none 0 0, .int .i64 0, .slice none 0 0] 30 (0, 0)⟩, ⟨g2, true, .cells #[.int .i64 kd, .int .i64 fd, .int .i64 s0, .int .u32 s1, .bool b0, .slice Ab l5.length cb, .int .i64 s3, .slice Aa ((l7.take 50).length) ca] 30 (0, 0)⟩]) S260 rfl rfl rfl rfl sz_26 1 rfl (.inl rfl) rfl rfl rfl ?_
          intro w262 S263 E264
          have HRan := Aside0.mk (R_ext HRa.out E264 (S260.blk 1 rfl) (by decide))
          clear HRa
          have HRa := HRan
          clear HRan
          have HRbn := Aside0.mk (R_ext HRb.out E264 (S260.blk 1 rfl) (by decide))
          clear HRb
          have HRb := HRbn
          clear HRbn
          refine ⟨trivial, ?_⟩
          refine d_done (by kernel_rfl) ?_
          refine x_seq ?_
          refine s_seq ?_
          refine s_region ?_
          refine q_val (v := .agg #[.int .i64 kd, .int .i64 fd, .int .i64 s0, .int .u32 s1, .bool b0, .slice Ab l5.length cb, .int .i64 s3, .slice Aa ((l7.take 50).length) ca]) (wn rfl) rfl (r_loadN (vs := [.int .i64 kd, .int .i64 fd, .int .i64 s0, .int .u32 s1, .bool b0, .slice Ab l5.length cb, .int .i64 s3, .slice Aa ((l7.take 50).length) ca]) sz_30 rfl (S263.blk 1 rfl) rfl rfl) ?_
          refine q_of (wn rfl) ?_
          refine e_store (vs := [.int .i64 kd, .int .i64 fd, .int .i64 s0, .int .u32 s1, .bool b0, .slice Ab l5.length cb, .int .i64 s3, .slice Aa ((l7.take 50).length) ca]) (cs' := [.int .i64 kd, .int .i64 fd, .int .i64 s0, .int .u32 s1, .bool b0, .slice Ab l5.length cb, .int .i64 s3, .slice Aa ((l7.take 50).length) ca]) (σ' := [⟨g6, true, .cells #[.int .i64 kd, .int .i64 fd, .int .i64 s0, .int .u32 s1, .bool b0, .slice Ab l5.length cb, .int .i64 s3, .slice Aa ((l7.take 50).length) ca] 30 (0, 0)⟩, ⟨g2, true, .cells #[.int .i64 kd, .int .i64 fd, .int .i64 s0, .int .u32 s1, .bool b0, .slice Ab l5.length cb, .int .i64 s3, .slice Aa ((l7.take 50).length) ca] 30 (0, 0)⟩]) S263 rfl rfl rfl rfl sz_30 0 rfl (.inl rfl) rfl rfl rfl ?_
          intro w265 S266 E267
          have HRan := Aside0.mk (R_ext HRa.out E267 (S263.blk 0 rfl) (by decide))
          clear HRa
          have HRa := HRan
          clear HRan
          have HRbn := Aside0.mk (R_ext HRb.out E267 (S263.blk 0 rfl) (by decide))
          clear HRb
          have HRb := HRbn
          clear HRbn
          refine q_nil ?_
          refine x_seq ?_
          refine s_ret ?_
          refine t_retc (cs := [.int .i64 kd, .int .i64 fd, .int .i64 s0, .int .u32 s1, .bool b0, .slice Ab l5.length cb, .int .i64 s3, .slice Aa ((l7.take 50).length) ca])  rfl rfl (S266.blk 0 rfl) sz_30 ?_
          have el7 : cut50 l7 = (l7.take 50) := by unfold cut50; first | rw [if_pos (by omega)] | rw [if_neg (by omega)]
          have el5 : cut50 l5 = l5 := by unfold cut50; first | rw [if_pos (by omega)] | rw [if_neg (by omega)]
          rw [el7, el5]
          exact ⟨_, _, rfl, Kd.R_lower HRb.out HBo, HRa.out, S266.ext.below⟩
  · skip
    refine q_val (v := .bool false) (wn rfl) rfl (r_gtr rfl rfl (decide_eq_false (h7))) ?_
    refine q_nil ?_
    refine x_seq ?_
    refine s_false rfl ?_
    refine s_skip ?_
    refine x_seq ?_
    refine s_seq ?_
    refine s_seq ?_
    refine s_region ?_
    refine q_val (v := .pointer (some ⟨g2, 2, none⟩)) (wn rfl) rfl (r_field fld_30_2 rfl rfl) ?_
    refine q_val (v := .pointer (some ⟨g2, 4, none⟩)) (wn rfl) rfl (r_field fld_28_2 rfl rfl) ?_
    refine q_val (v := .pointer (some ⟨g2, 5, none⟩)) (wn rfl) rfl (r_field fld_26_1 rfl rfl) ?_
    refine q_val (v := .slice A5 l5.length c5) (wn rfl) rfl (r_load1 sz_24 rfl (S8.cell 1 rfl rfl)) ?_
    refine q_val (v := .int .i64 ((l5.length : Nat) : Int)) (wn rfl) rfl (r_len_slice elm_24 rfl) ?_
    by_cases h5 : ((((l5.length : Nat) : Int) : Int) > 50)
    · skip
      refine q_val (v := .bool true) (wn rfl) rfl (r_gtr rfl rfl (decide_eq_true (h5))) ?_
      refine q_nil ?_
      refine x_seq ?_
      refine s_true rfl ?_
      refine s_region ?_
      refine q_val (v := .pointer (some ⟨g2, 2, none⟩)) (wn rfl) rfl (r_field fld_30_2 rfl rfl) ?_
      refine q_val (v := .pointer (some ⟨g2, 4, none⟩)) (wn rfl) rfl (r_field fld_28_2 rfl rfl) ?_
      refine q_val (v := .pointer (some ⟨g2, 5, none⟩)) (wn rfl) rfl (r_field fld_26_1 rfl rfl) ?_
      refine q_val (v := .slice A5 l5.length c5) (wn rfl) rfl (r_load1 sz_24 rfl (S8.cell 1 rfl rfl)) ?_
      refine q_val (v := .slice A5 50 c5) (wn rfl) rfl (r_slice_h (q := 50) elm_24 rfl rfl (by omega) (by omega)) ?_
      refine q_val (v := .pointer (some ⟨g2, 2, none⟩)) (wn rfl) rfl (r_field fld_30_2 rfl rfl) ?_
      refine q_val (v := .pointer (some ⟨g2, 4, none⟩)) (wn rfl) rfl (r_field fld_28_2 rfl rfl) ?_
      refine q_val (v := .pointer (some ⟨g2, 5, none⟩)) (wn rfl) rfl (r_field fld_26_1 rfl rfl) ?_
      refine q_of (wn rfl) ?_
      refine e_store (vs := [.slice A5 50 c5]) (cs' := [.int .i64 kd, .int .i64 fd, .int .i64 s0, .int .u32 s1, .bool b0, .slice A5 50 c5, .int .i64 s3, .slice A7 l7.length c7]) (σ' := [⟨g6, true, .cells #[.int .i64 0, .int .i64 0, .int .i64 0, .int .u32 0, .bool false, .slice none 0 0, .int .i64 0, .slice none 0 0] 30 (0, 0)⟩, ⟨g2, true, .cells #[.int .i64 kd, .int .i64 fd, .int .i64 s0, .int .u32 s1, .bool b0, .slice A5 50 c5, .int .i64 s3, .slice A7 l7.length c7] 30 (0, 0)⟩]) S8 rfl rfl rfl rfl sz_24 1 rfl (.inl rfl) rfl rfl rfl ?_
      intro w268 S269 E270
      refine q_nil ?_
      refine x_seq ?_
      refine s_seq ?_
      refine d_start mix (fun _ => True) ?_
      have S271 := S269.draw
      generalize w268.drew = w272 at S271 ⊢
      refine d_take (v := .pointer (some ⟨g2, 7, none⟩)) (listed' := #[false, true, false, false, false, false, false, false, false, false, false, false, false]) 1 rfl (by kernel_rfl) (by kernel_rfl) (by kernel_rfl) rfl (fun _ _ _ h => h) (wn rfl) (fun W hW => r_field fld_30_3 rfl rfl) trivial (by kernel_rfl) ?_
      refine d_take (v := .pointer (some ⟨g2, 2, none⟩)) (listed' := #[false, true, false, false, true, false, false, false, false, false, false, false, false]) 4 rfl (by kernel_rfl) (by kernel_rfl) (by kernel_rfl) rfl (fun _ _ _ h => h) (wn rfl) (fun W hW => r_field fld_30_2 rfl rfl) trivial (by kernel_rfl) ?_
      refine d_take (v := .pointer (some ⟨g2, 4, none⟩)) (listed' := #[false, true, false, false, true, true, false, false, false, false, false, false, false]) 5 rfl (by kernel_rfl) (by kernel_rfl) (by kernel_rfl) rfl (fun _ _ _ h => h) (wn rfl) (fun W hW => r_field fld_28_2 rfl rfl) trivial (by kernel_rfl) ?_
      refine d_three (la := #[true, true, false, false, true, true, false, false, false, false, false, false, false]) (lb := #[false, true, true, false, true, true, false, false, false, false, false, false, false]) (lc := #[false, true, false, false, true, true, true, false, false, false, false, false, false]) 0 2 6 rfl rfl rfl (by kernel_rfl) (wn rfl) (wn rfl) (wn rfl) (by kernel_rfl) (by kernel_rfl) (by kernel_rfl) ?_ ?_ ?_
      · skip
        refine e_new (vf := fun g => .slice (some ⟨g, 0, none⟩) 0 0) (ob := .cells #[] 3) rfl S271 (r_buildSlice (ps := []) rfl (by kernel_rfl)) ?_
        intro g273 w274 hg273 S275 B276
        refine ⟨trivial, ?_⟩
        refine d_two (listed' := #[true, true, true, false, true, true, false, false, false, false, false, false, false]) (listed'' := #[true, true, false, false, true, true, true, false, false, false, false, false, false]) 2 6 rfl rfl (by kernel_rfl) (wn rfl) (wn rfl) (by kernel_rfl) (by kernel_rfl) ?_ ?_
        · skip
          refine e_val (v := .slice A7 l7.length c7) rfl (r_load1 sz_24 rfl (S275.cell 2 rfl rfl)) ?_
          refine ⟨trivial, ?_⟩
          refine d_two (listed' := #[true, true, true, true, true, true, false, false, false, false, false, false, false]) (listed'' := #[true, true, true, false, true, true, true, false, false, false, false, false, false]) 3 6 rfl rfl (by kernel_rfl) (wn rfl) (wn rfl) (by kernel_rfl) (by kernel_rfl) ?_ ?_
          · skip
            have hC277 : Kd.C (Kd.int .i64) w274 A7 l7.length l7 := Kd.C_below HC7.out S275.ext.below
            obtain ⟨v277, w277, hr277, HRa277, E277⟩ := append_row (c := c7) 24 (empty_row (base := w.heap.size) (S275.blk 0 rfl) (S275.own _ (List.mem_of_getElem? (i := 0) rfl) rfl)) hC277 (by first | (simp; done) | (simp; omega)) (S275.ext.size)
            rw [List.nil_append] at HRa277
            obtain ⟨Aa, ca, rfl⟩ := Kd.R_slice HRa277
            refine e_val (v := .slice Aa l7.length ca) rfl (r_append rfl rfl hr277) ?_
            obtain ⟨S277, F277⟩ := St_app S275 E277
            have HRa := Aside0.mk HRa277
            refine ⟨trivial, ?_⟩
            refine d_one (listed' := #[true, true, true, true, true, true, true, false, false, false, false, false, false]) 6 rfl (by kernel_rfl) (wn rfl) (by kernel_rfl) ?_
            refine e_val (v := .agg #[.bool b0, .slice A5 50 c5]) rfl (r_loadN (vs := [.bool b0, .slice A5 50 c5]) sz_26 rfl (S277.blk 1 rfl) rfl rfl) ?_
            refine ⟨trivial, ?_⟩
            refine d_take (v := .pointer (some ⟨g2, 7, none⟩)) (listed' := #[true, true, true, true, true, true, true, false, true, false, false, false, false]) 8 rfl (by kernel_rfl) (by kernel_rfl) (by kernel_rfl) rfl (fun _ _ _ h => h) (wn rfl) (fun W hW => r_field fld_30_3 rfl rfl) trivial (by kernel_rfl) ?_
            refine d_one (listed' := #[true, true, true, true, true, true, true, true, true, false, false, false, false]) 7 rfl (by kernel_rfl) (wn rfl) (by kernel_rfl) ?_
            refine e_call (args := [.agg #[.bool b0, .slice A5 50 c5]]) Try.func38 (by kernel_rfl) rfl rfl ?_
            have hC5 := C_take (Kd.C_below HC5.out S277.ext.below) 50
            refine (Own_at b0 A5 c5 (l5.take 50) 50 (take50 (by omega)) _ hC5 (by rw [List.length_take]; omega) (by rw [List.length_take]; omega)).mono ?_
            rintro e w278 ⟨v, rfl, ho, hb⟩
            obtain ⟨Ab, cb, rfl⟩ := Kd.R_slice ho
            refine ⟨_, rfl, ?_⟩
            have B279 := hb
            have S280 := S277.call B279
            have HRan := Aside0.mk (R_below HRa.out B279)
            clear HRa
            have HRa := HRan
            clear HRan
            have HRb := Aside0.mk ho
            clear ho
            have HBo := S277.ext.size
            refine ⟨trivial, ?_⟩
            refine d_one (listed' := #[true, true, true, true, true, true, true, true, true, true, false, false, false]) 9 rfl (by kernel_rfl) (wn rfl) (by kernel_rfl) ?_
            refine e_store (vs := [.slice Aa l7.length ca]) (cs' := [.int .i64 kd, .int .i64 fd, .int .i64 s0, .int .u32 s1, .bool b0, .slice A5 50 c5, .int .i64 s3, .slice Aa l7.length ca]) (σ' := [⟨g6, true, .cells #[.int .i64 0, .int .i64 0, .int .i64 0, .int .u32 0, .bool false, .slice none 0 0, .int .i64 0, .slice none 0 0] 30 (0, 0)⟩, ⟨g2, true, .cells #[.int .i64 kd, .int .i64 fd, .int .i64 s0, .int .u32 s1, .bool b0, .slice A5 50 c5, .int .i64 s3, .slice Aa l7.length ca] 30 (0, 0)⟩]) S280 rfl rfl rfl rfl sz_24 1 rfl (.inl rfl) rfl rfl rfl ?_
            intro w281 S282 E283
            have HRan := Aside0.mk (R_ext HRa.out E283 (S280.blk 1 rfl) (by decide))
            clear HRa
            have HRa := HRan
            clear HRan
            have HRbn := Aside0.mk (R_ext HRb.out E283 (S280.blk 1 rfl) (by decide))
            clear HRb
            have HRb := HRbn
            clear HRbn
            refine ⟨trivial, ?_⟩
            refine d_take (v := .pointer (some ⟨g2, 2, none⟩)) (listed' := #[true, true, true, true, true, true, true, true, true, true, true, false, false]) 10 rfl (by kernel_rfl) (by kernel_rfl) (by kernel_rfl) rfl (fun _ _ _ h => h) (wn rfl) (fun W hW => r_field fld_30_2 rfl rfl) trivial (by kernel_rfl) ?_
            refine d_take (v := .pointer (some ⟨g2, 4, none⟩)) (listed' := #[true, true, true, true, true, true, true, true, true, true, true, true, false]) 11 rfl (by kernel_rfl) (by kernel_rfl) (by kernel_rfl) rfl (fun _ _ _ h => h) (wn rfl) (fun W hW => r_field fld_28_2 rfl rfl) trivial (by kernel_rfl) ?_
            refine d_one (listed' := #[true, true, true, true, true, true, true, true, true, true, true, true, true]) 12 rfl (by kernel_rfl) (wn rfl) (by kernel_rfl) ?_
            refine e_store (vs := [.bool b0, .slice Ab ((l5.take 50).length) cb]) (cs' := [.int .i64 kd, .int .i64 fd, .int .i64 s0, .int .u32 s1, .bool b0, .slice Ab ((l5.take 50).length) cb, .int .i64 s3, .slice Aa l7.length ca]) (σ' := [⟨g6, true, .cells #[.int .i64 0, .int .i64 0, .int .i64 0, .int .u32 0, .bool false, .slice none 0 0, .int .i64 0, .slice none 0 0] 30 (0, 0)⟩, ⟨g2, true, .cells #[.int .i64 kd, .int .i64 fd, .int .i64 s0, .int .u32 s1, .bool b0, .slice Ab ((l5.take 50).length) cb, .int .i64 s3, .slice Aa l7.length ca] 30 (0, 0)⟩]) S282 rfl rfl rfl rfl sz_26 1 rfl (.inl rfl) rfl rfl rfl ?_
            intro w284 S285 E286
            have HRan := Aside0.mk (R_ext HRa.out E286 (S282.blk 1 rfl) (by decide))
            clear HRa
            have HRa := HRan
            clear HRan
            have HRbn := Aside0.mk (R_ext HRb.out E286 (S282.blk 1 rfl) (by decide))
            clear HRb
            have HRb := HRbn
            clear HRbn
            refine ⟨trivial, ?_⟩
            refine d_done (by kernel_rfl) ?_
            refine x_seq ?_
            refine s_seq ?_
            refine s_region ?_
            refine q_val (v := .agg #[.int .i64 kd, .int .i64 fd, .int .i64 s0, .int .u32 s1, .bool b0, .slice Ab ((l5.take 50).length) cb, .int .i64 s3, .slice Aa l7.length ca]) (wn rfl) rfl (r_loadN (vs := [.int .i64 kd, .int .i64 fd, .int .i64 s0, .int .u32 s1, .bool b0, .slice Ab ((l5.take 50).length) cb, .int .i64 s3, .slice Aa l7.length ca]) sz_30 rfl (S285.blk 1 rfl) rfl rfl) ?_
            refine q_of (wn rfl) ?_
            refine e_store (vs := [.int .i64 kd, .int .i64 fd, .int .i64 s0, .int .u32 s1, .bool b0, .slice Ab ((l5.take 50).length) cb, .int .i64 s3, .slice Aa l7.length ca]) (cs' := [.int .i64 kd, .int .i64 fd, .int .i64 s0, .int .u32 s1, .bool b0, .slice Ab ((l5.take 50).length) cb, .int .i64 s3, .slice Aa l7.length ca]) (σ' := [⟨g6, true, .cells #[.int .i64 kd, .int .i64 fd, .int .i64 s0, .int .u32 s1, .bool b0, .slice Ab ((l5.take 50).length) cb, .int .i64 s3, .slice Aa l7.length ca] 30 (0, 0)⟩, ⟨g2, true, .cells #[.int .i64 kd, .int .i64 fd, .int .i64 s0, .int .u32 s1, .bool b0, .slice Ab ((l5.take 50).length) cb, .int .i64 s3, .slice Aa l7.length ca] 30 (0, 0)⟩]) S285 rfl rfl rfl rfl sz_30 0 rfl (.inl rfl) rfl rfl rfl ?_
            intro w287 S288 E289
            have HRan := Aside0.mk (R_ext HRa.out E289 (S285.blk 0 rfl) (by decide))
            clear HRa
            have HRa := HRan
            clear HRan
            have HRbn := Aside0.mk (R_ext HRb.out E289 (S285.blk 0 rfl) (by decide))
            clear HRb
            have HRb := HRbn
            clear HRbn
            refine q_nil ?_
            refine x_seq ?_
            refine s_ret ?_
            refine t_retc (cs := [.int .i64 kd, .int .i64 fd, .int .i64 s0, .int .u32 s1, .bool b0, .slice Ab ((l5.take 50).length) cb, .int .i64 s3, .slice Aa l7.length ca])  rfl rfl (S288.blk 0 rfl) sz_30 ?_
            have el7 : cut50 l7 = l7 := by unfold cut50; first | rw [if_pos (by omega)] | rw [if_neg (by omega)]
            have el5 : cut50 l5 = (l5.take 50) := by unfold cut50; first | rw [if_pos (by omega)] | rw [if_neg (by omega)]
            rw [el7, el5]
            exact ⟨_, _, rfl, Kd.R_lower HRb.out HBo, HRa.out, S288.ext.below⟩
          · skip
            refine e_val (v := .agg #[.bool b0, .slice A5 50 c5]) rfl (r_loadN (vs := [.bool b0, .slice A5 50 c5]) sz_26 rfl (S275.blk 2 rfl) rfl rfl) ?_
            refine ⟨trivial, ?_⟩
            refine d_one (listed' := #[true, true, true, true, true, true, true, false, false, false, false, false, false]) 3 rfl (by kernel_rfl) (wn rfl) (by kernel_rfl) ?_
            have hC290 : Kd.C (Kd.int .i64) w274 A7 l7.length l7 := Kd.C_below HC7.out S275.ext.below
            obtain ⟨v290, w290, hr290, HRa290, E290⟩ := append_row (c := c7) 24 (empty_row (base := w.heap.size) (S275.blk 0 rfl) (S275.own _ (List.mem_of_getElem? (i := 0) rfl) rfl)) hC290 (by first | (simp; done) | (simp; omega)) (S275.ext.size)
            rw [List.nil_append] at HRa290
            obtain ⟨Aa, ca, rfl⟩ := Kd.R_slice HRa290
            refine e_val (v := .slice Aa l7.length ca) rfl (r_append rfl rfl hr290) ?_
            obtain ⟨S290, F290⟩ := St_app S275 E290
            have HRa := Aside0.mk HRa290
            refine ⟨trivial, ?_⟩
            refine d_take (v := .pointer (some ⟨g2, 7, none⟩)) (listed' := #[true, true, true, true, true, true, true, false, true, false, false, false, false]) 8 rfl (by kernel_rfl) (by kernel_rfl) (by kernel_rfl) rfl (fun _ _ _ h => h) (wn rfl) (fun W hW => r_field fld_30_3 rfl rfl) trivial (by kernel_rfl) ?_
            refine d_one (listed' := #[true, true, true, true, true, true, true, true, true, false, false, false, false]) 7 rfl (by kernel_rfl) (wn rfl) (by kernel_rfl) ?_
            refine e_call (args := [.agg #[.bool b0, .slice A5 50 c5]]) Try.func38 (by kernel_rfl) rfl rfl ?_
            have hC5 := C_take (Kd.C_below HC5.out S290.ext.below) 50
            refine (Own_at b0 A5 c5 (l5.take 50) 50 (take50 (by omega)) _ hC5 (by rw [List.length_take]; omega) (by rw [List.length_take]; omega)).mono ?_
            rintro e w291 ⟨v, rfl, ho, hb⟩
            obtain ⟨Ab, cb, rfl⟩ := Kd.R_slice ho
            refine ⟨_, rfl, ?_⟩
            have B292 := hb
            have S293 := S290.call B292
            have HRan := Aside0.mk (R_below HRa.out B292)
            clear HRa
            have HRa := HRan
            clear HRan
            have HRb := Aside0.mk ho
            clear ho
            have HBo := S290.ext.size
            refine ⟨trivial, ?_⟩
            refine d_one (listed' := #[true, true, true, true, true, true, true, true, true, true, false, false, false]) 9 rfl (by kernel_rfl) (wn rfl) (by kernel_rfl) ?_
            refine e_store (vs := [.slice Aa l7.length ca]) (cs' := [.int .i64 kd, .int .i64 fd, .int .i64 s0, .int .u32 s1, .bool b0, .slice A5 50 c5, .int .i64 s3, .slice Aa l7.length ca]) (σ' := [⟨g6, true, .cells #[.int .i64 0, .int .i64 0, .int .i64 0, .int .u32 0, .bool false, .slice none 0 0, .int .i64 0, .slice none 0 0] 30 (0, 0)⟩, ⟨g2, true, .cells #[.int .i64 kd, .int .i64 fd, .int .i64 s0, .int .u32 s1, .bool b0, .slice A5 50 c5, .int .i64 s3, .slice Aa l7.length ca] 30 (0, 0)⟩]) S293 rfl rfl rfl rfl sz_24 1 rfl (.inl rfl) rfl rfl rfl ?_
            intro w294 S295 E296
            have HRan := Aside0.mk (R_ext HRa.out E296 (S293.blk 1 rfl) (by decide))
            clear HRa
            have HRa := HRan
            clear HRan
            have HRbn := Aside0.mk (R_ext HRb.out E296 (S293.blk 1 rfl) (by decide))
            clear HRb
            have HRb := HRbn
            clear HRbn
            refine ⟨trivial, ?_⟩
            refine d_take (v := .pointer (some ⟨g2, 2, none⟩)) (listed' := #[true, true, true, true, true, true, true, true, true, true, true, false, false]) 10 rfl (by kernel_rfl) (by kernel_rfl) (by kernel_rfl) rfl (fun _ _ _ h => h) (wn rfl) (fun W hW => r_field fld_30_2 rfl rfl) trivial (by kernel_rfl) ?_
            refine d_take (v := .pointer (some ⟨g2, 4, none⟩)) (listed' := #[true, true, true, true, true, true, true, true, true, true, true, true, false]) 11 rfl (by kernel_rfl) (by kernel_rfl) (by kernel_rfl) rfl (fun _ _ _ h => h) (wn rfl) (fun W hW => r_field fld_28_2 rfl rfl) trivial (by kernel_rfl) ?_
            refine d_one (listed' := #[true, true, true, true, true, true, true, true, true, true, true, true, true]) 12 rfl (by kernel_rfl) (wn rfl) (by kernel_rfl) ?_
            refine e_store (vs := [.bool b0, .slice Ab ((l5.take 50).length) cb]) (cs' := [.int .i64 kd, .int .i64 fd, .int .i64 s0, .int .u32 s1, .bool b0, .slice Ab ((l5.take 50).length) cb, .int .i64 s3, .slice Aa l7.length ca]) (σ' := [⟨g6, true, .cells #[.int .i64 0, .int .i64 0, .int .i64 0, .int .u32 0, .bool false, .slice none 0 0, .int .i64 0, .slice none 0 0] 30 (0, 0)⟩, ⟨g2, true, .cells #[.int .i64 kd, .int .i64 fd, .int .i64 s0, .int .u32 s1, .bool b0, .slice Ab ((l5.take 50).length) cb, .int .i64 s3, .slice Aa l7.length ca] 30 (0, 0)⟩]) S295 rfl rfl rfl rfl sz_26 1 rfl (.inl rfl) rfl rfl rfl ?_
            intro w297 S298 E299
            have HRan := Aside0.mk (R_ext HRa.out E299 (S295.blk 1 rfl) (by decide))
            clear HRa
            have HRa := HRan
            clear HRan
            have HRbn := Aside0.mk (R_ext HRb.out E299 (S295.blk 1 rfl) (by decide))
            clear HRb
            have HRb := HRbn
            clear HRbn
            refine ⟨trivial, ?_⟩
            refine d_done (by kernel_rfl) ?_
            refine x_seq ?_
            refine s_seq ?_
            refine s_region ?_
            refine q_val (v := .agg #[.int .i64 kd, .int .i64 fd, .int .i64 s0, .int .u32 s1, .bool b0, .slice Ab ((l5.take 50).length) cb, .int .i64 s3, .slice Aa l7.length ca]) (wn rfl) rfl (r_loadN (vs := [.int .i64 kd, .int .i64 fd, .int .i64 s0, .int .u32 s1, .bool b0, .slice Ab ((l5.take 50).length) cb, .int .i64 s3, .slice Aa l7.length ca]) sz_30 rfl (S298.blk 1 rfl) rfl rfl) ?_
            refine q_of (wn rfl) ?_
            refine e_store (vs := [.int .i64 kd, .int .i64 fd, .int .i64 s0, .int .u32 s1, .bool b0, .slice Ab ((l5.take 50).length) cb, .int .i64 s3, .slice Aa l7.length ca]) (cs' := [.int .i64 kd, .int .i64 fd, .int .i64 s0, .int .u32 s1, .bool b0, .slice Ab ((l5.take 50).length) cb, .int .i64 s3, .slice Aa l7.length ca]) (σ' := [⟨g6, true, .cells #[.int .i64 kd, .int .i64 fd, .int .i64 s0, .int .u32 s1, .bool b0, .slice Ab ((l5.take 50).length) cb, .int .i64 s3, .slice Aa l7.length ca] 30 (0, 0)⟩, ⟨g2, true, .cells #[.int .i64 kd, .int .i64 fd, .int .i64 s0, .int .u32 s1, .bool b0, .slice Ab ((l5.take 50).length) cb, .int .i64 s3, .slice Aa l7.length ca] 30 (0, 0)⟩]) S298 rfl rfl rfl rfl sz_30 0 rfl (.inl rfl) rfl rfl rfl ?_
            intro w300 S301 E302
            have HRan := Aside0.mk (R_ext HRa.out E302 (S298.blk 0 rfl) (by decide))
            clear HRa
            have HRa := HRan
            clear HRan
            have HRbn := Aside0.mk (R_ext HRb.out E302 (S298.blk 0 rfl) (by decide))
            clear HRb
            have HRb := HRbn
            clear HRbn
            refine q_nil ?_
            refine x_seq ?_
            refine s_ret ?_
            refine t_retc (cs := [.int .i64 kd, .int .i64 fd, .int .i64 s0, .int .u32 s1, .bool b0, .slice Ab ((l5.take 50).length) cb, .int .i64 s3, .slice Aa l7.length ca])  rfl rfl (S301.blk 0 rfl) sz_30 ?_
            have el7 : cut50 l7 = l7 := by unfold cut50; first | rw [if_pos (by omega)] | rw [if_neg (by omega)]
            have el5 : cut50 l5 = (l5.take 50) := by unfold cut50; first | rw [if_pos (by omega)] | rw [if_neg (by omega)]
            rw [el7, el5]
            exact ⟨_, _, rfl, Kd.R_lower HRb.out HBo, HRa.out, S301.ext.below⟩
        · skip
          refine e_val (v := .agg #[.bool b0, .slice A5 50 c5]) rfl (r_loadN (vs := [.bool b0, .slice A5 50 c5]) sz_26 rfl (S275.blk 2 rfl) rfl rfl) ?_
          refine ⟨trivial, ?_⟩
          refine d_one (listed' := #[true, true, true, false, true, true, true, false, false, false, false, false, false]) 2 rfl (by kernel_rfl) (wn rfl) (by kernel_rfl) ?_
          refine e_val (v := .slice A7 l7.length c7) rfl (r_load1 sz_24 rfl (S275.cell 2 rfl rfl)) ?_
          refine ⟨trivial, ?_⟩
          refine d_one (listed' := #[true, true, true, true, true, true, true, false, false, false, false, false, false]) 3 rfl (by kernel_rfl) (wn rfl) (by kernel_rfl) ?_
          have hC303 : Kd.C (Kd.int .i64) w274 A7 l7.length l7 := Kd.C_below HC7.out S275.ext.below
          obtain ⟨v303, w303, hr303, HRa303, E303⟩ := append_row (c := c7) 24 (empty_row (base := w.heap.size) (S275.blk 0 rfl) (S275.own _ (List.mem_of_getElem? (i := 0) rfl) rfl)) hC303 (by first | (simp; done) | (simp; omega)) (S275.ext.size)
          rw [List.nil_append] at HRa303
          obtain ⟨Aa, ca, rfl⟩ := Kd.R_slice HRa303
          refine e_val (v := .slice Aa l7.length ca) rfl (r_append rfl rfl hr303) ?_
          obtain ⟨S303, F303⟩ := St_app S275 E303
          have HRa := Aside0.mk HRa303
          refine ⟨trivial, ?_⟩
          refine d_take (v := .pointer (some ⟨g2, 7, none⟩)) (listed' := #[true, true, true, true, true, true, true, false, true, false, false, false, false]) 8 rfl (by kernel_rfl) (by kernel_rfl) (by kernel_rfl) rfl (fun _ _ _ h => h) (wn rfl) (fun W hW => r_field fld_30_3 rfl rfl) trivial (by kernel_rfl) ?_
          refine d_one (listed' := #[true, true, true, true, true, true, true, true, true, false, false, false, false]) 7 rfl (by kernel_rfl) (wn rfl) (by kernel_rfl) ?_
          refine e_call (args := [.agg #[.bool b0, .slice A5 50 c5]]) Try.func38 (by kernel_rfl) rfl rfl ?_
          have hC5 := C_take (Kd.C_below HC5.out S303.ext.below) 50
          refine (Own_at b0 A5 c5 (l5.take 50) 50 (take50 (by omega)) _ hC5 (by rw [List.length_take]; omega) (by rw [List.length_take]; omega)).mono ?_
          rintro e w304 ⟨v, rfl, ho, hb⟩
          obtain ⟨Ab, cb, rfl⟩ := Kd.R_slice ho
          refine ⟨_, rfl, ?_⟩
          have B305 := hb
          have S306 := S303.call B305
          have HRan := Aside0.mk (R_below HRa.out B305)
          clear HRa
          have HRa := HRan
          clear HRan
          have HRb := Aside0.mk ho
          clear ho
          have HBo := S303.ext.size
          refine ⟨trivial, ?_⟩
          refine d_one (listed' := #[true, true, true, true, true, true, true, true, true, true, false, false, false]) 9 rfl (by kernel_rfl) (wn rfl) (by kernel_rfl) ?_
          refine e_store (vs := [.slice Aa l7.length ca]) (cs' := [.int .i64 kd, .int .i64 fd, .int .i64 s0, .int .u32 s1, .bool b0, .slice A5 50 c5, .int .i64 s3, .slice Aa l7.length ca]) (σ' := [⟨g6, true, .cells #[.int .i64 0, .int .i64 0, .int .i64 0, .int .u32 0, .bool false, .slice none 0 0, .int .i64 0, .slice none 0 0] 30 (0, 0)⟩, ⟨g2, true, .cells #[.int .i64 kd, .int .i64 fd, .int .i64 s0, .int .u32 s1, .bool b0, .slice A5 50 c5, .int .i64 s3, .slice Aa l7.length ca] 30 (0, 0)⟩]) S306 rfl rfl rfl rfl sz_24 1 rfl (.inl rfl) rfl rfl rfl ?_
          intro w307 S308 E309
          have HRan := Aside0.mk (R_ext HRa.out E309 (S306.blk 1 rfl) (by decide))
          clear HRa
          have HRa := HRan
          clear HRan
          have HRbn := Aside0.mk (R_ext HRb.out E309 (S306.blk 1 rfl) (by decide))
          clear HRb
          have HRb := HRbn
          clear HRbn
          refine ⟨trivial, ?_⟩
          refine d_take (v := .pointer (some ⟨g2, 2, none⟩)) (listed' := #[true, true, true, true, true, true, true, true, true, true, true, false, false]) 10 rfl (by kernel_rfl) (by kernel_rfl) (by kernel_rfl) rfl (fun _ _ _ h => h) (wn rfl) (fun W hW => r_field fld_30_2 rfl rfl) trivial (by kernel_rfl) ?_
          refine d_take (v := .pointer (some ⟨g2, 4, none⟩)) (listed' := #[true, true, true, true, true, true, true, true, true, true, true, true, false]) 11 rfl (by kernel_rfl) (by kernel_rfl) (by kernel_rfl) rfl (fun _ _ _ h => h) (wn rfl) (fun W hW => r_field fld_28_2 rfl rfl) trivial (by kernel_rfl) ?_
          refine d_one (listed' := #[true, true, true, true, true, true, true, true, true, true, true, true, true]) 12 rfl (by kernel_rfl) (wn rfl) (by kernel_rfl) ?_
          refine e_store (vs := [.bool b0, .slice Ab ((l5.take 50).length) cb]) (cs' := [.int .i64 kd, .int .i64 fd, .int .i64 s0, .int .u32 s1, .bool b0, .slice Ab ((l5.take 50).length) cb, .int .i64 s3, .slice Aa l7.length ca]) (σ' := [⟨g6, true, .cells #[.int .i64 0, .int .i64 0, .int .i64 0, .int .u32 0, .bool false, .slice none 0 0, .int .i64 0, .slice none 0 0] 30 (0, 0)⟩, ⟨g2, true, .cells #[.int .i64 kd, .int .i64 fd, .int .i64 s0, .int .u32 s1, .bool b0, .slice Ab ((l5.take 50).length) cb, .int .i64 s3, .slice Aa l7.length ca] 30 (0, 0)⟩]) S308 rfl rfl rfl rfl sz_26 1 rfl (.inl rfl) rfl rfl rfl ?_
          intro w310 S311 E312
          have HRan := Aside0.mk (R_ext HRa.out E312 (S308.blk 1 rfl) (by decide))
          clear HRa
          have HRa := HRan
          clear HRan
          have HRbn := Aside0.mk (R_ext HRb.out E312 (S308.blk 1 rfl) (by decide))
          clear HRb
          have HRb := HRbn
          clear HRbn
          refine ⟨trivial, ?_⟩
          refine d_done (by kernel_rfl) ?_
          refine x_seq ?_
          refine s_seq ?_
          refine s_region ?_
          refine q_val (v := .agg #[.int .i64 kd, .int .i64 fd, .int .i64 s0, .int .u32 s1, .bool b0, .slice Ab ((l5.take 50).length) cb, .int .i64 s3, .slice Aa l7.length ca]) (wn rfl) rfl (r_loadN (vs := [.int .i64 kd, .int .i64 fd, .int .i64 s0, .int .u32 s1, .bool b0, .slice Ab ((l5.take 50).length) cb, .int .i64 s3, .slice Aa l7.length ca]) sz_30 rfl (S311.blk 1 rfl) rfl rfl) ?_
          refine q_of (wn rfl) ?_
          refine e_store (vs := [.int .i64 kd, .int .i64 fd, .int .i64 s0, .int .u32 s1, .bool b0, .slice Ab ((l5.take 50).length) cb, .int .i64 s3, .slice Aa l7.length ca]) (cs' := [.int .i64 kd, .int .i64 fd, .int .i64 s0, .int .u32 s1, .bool b0, .slice Ab ((l5.take 50).length) cb, .int .i64 s3, .slice Aa l7.length ca]) (σ' := [⟨g6, true, .cells #[.int .i64 kd, .int .i64 fd, .int .i64 s0, .int .u32 s1, .bool b0, .slice Ab ((l5.take 50).length) cb, .int .i64 s3, .slice Aa l7.length ca] 30 (0, 0)⟩, ⟨g2, true, .cells #[.int .i64 kd, .int .i64 fd, .int .i64 s0, .int .u32 s1, .bool b0, .slice Ab ((l5.take 50).length) cb, .int .i64 s3, .slice Aa l7.length ca] 30 (0, 0)⟩]) S311 rfl rfl rfl rfl sz_30 0 rfl (.inl rfl) rfl rfl rfl ?_
          intro w313 S314 E315
          have HRan := Aside0.mk (R_ext HRa.out E315 (S311.blk 0 rfl) (by decide))
          clear HRa
          have HRa := HRan
          clear HRan
          have HRbn := Aside0.mk (R_ext HRb.out E315 (S311.blk 0 rfl) (by decide))
          clear HRb
          have HRb := HRbn
          clear HRbn
          refine q_nil ?_
          refine x_seq ?_
          refine s_ret ?_
          refine t_retc (cs := [.int .i64 kd, .int .i64 fd, .int .i64 s0, .int .u32 s1, .bool b0, .slice Ab ((l5.take 50).length) cb, .int .i64 s3, .slice Aa l7.length ca])  rfl rfl (S314.blk 0 rfl) sz_30 ?_
          have el7 : cut50 l7 = l7 := by unfold cut50; first | rw [if_pos (by omega)] | rw [if_neg (by omega)]
          have el5 : cut50 l5 = (l5.take 50) := by unfold cut50; first | rw [if_pos (by omega)] | rw [if_neg (by omega)]
          rw [el7, el5]
          exact ⟨_, _, rfl, Kd.R_lower HRb.out HBo, HRa.out, S314.ext.below⟩
      · skip
        refine e_val (v := .slice A7 l7.length c7) rfl (r_load1 sz_24 rfl (S271.cell 1 rfl rfl)) ?_
        refine ⟨trivial, ?_⟩
        refine d_two (listed' := #[true, true, true, false, true, true, false, false, false, false, false, false, false]) (listed'' := #[false, true, true, false, true, true, true, false, false, false, false, false, false]) 0 6 rfl rfl (by kernel_rfl) (wn rfl) (wn rfl) (by kernel_rfl) (by kernel_rfl) ?_ ?_
        · skip
          refine e_new (vf := fun g => .slice (some ⟨g, 0, none⟩) 0 0) (ob := .cells #[] 3) rfl S271 (r_buildSlice (ps := []) rfl (by kernel_rfl)) ?_
          intro g316 w317 hg316 S318 B319
          refine ⟨trivial, ?_⟩
          refine d_two (listed' := #[true, true, true, true, true, true, false, false, false, false, false, false, false]) (listed'' := #[true, true, true, false, true, true, true, false, false, false, false, false, false]) 3 6 rfl rfl (by kernel_rfl) (wn rfl) (wn rfl) (by kernel_rfl) (by kernel_rfl) ?_ ?_
          · skip
            have hC320 : Kd.C (Kd.int .i64) w317 A7 l7.length l7 := Kd.C_below HC7.out S318.ext.below
            obtain ⟨v320, w320, hr320, HRa320, E320⟩ := append_row (c := c7) 24 (empty_row (base := w.heap.size) (S318.blk 0 rfl) (S318.own _ (List.mem_of_getElem? (i := 0) rfl) rfl)) hC320 (by first | (simp; done) | (simp; omega)) (S318.ext.size)
            rw [List.nil_append] at HRa320
            obtain ⟨Aa, ca, rfl⟩ := Kd.R_slice HRa320
            refine e_val (v := .slice Aa l7.length ca) rfl (r_append rfl rfl hr320) ?_
            obtain ⟨S320, F320⟩ := St_app S318 E320
            have HRa := Aside0.mk HRa320
            refine ⟨trivial, ?_⟩
            refine d_one (listed' := #[true, true, true, true, true, true, true, false, false, false, false, false, false]) 6 rfl (by kernel_rfl) (wn rfl) (by kernel_rfl) ?_
            refine e_val (v := .agg #[.bool b0, .slice A5 50 c5]) rfl (r_loadN (vs := [.bool b0, .slice A5 50 c5]) sz_26 rfl (S320.blk 1 rfl) rfl rfl) ?_
            refine ⟨trivial, ?_⟩
            refine d_take (v := .pointer (some ⟨g2, 7, none⟩)) (listed' := #[true, true, true, true, true, true, true, false, true, false, false, false, false]) 8 rfl (by kernel_rfl) (by kernel_rfl) (by kernel_rfl) rfl (fun _ _ _ h => h) (wn rfl) (fun W hW => r_field fld_30_3 rfl rfl) trivial (by kernel_rfl) ?_
            refine d_one (listed' := #[true, true, true, true, true, true, true, true, true, false, false, false, false]) 7 rfl (by kernel_rfl) (wn rfl) (by kernel_rfl) ?_
            refine e_call (args := [.agg #[.bool b0, .slice A5 50 c5]]) Try.func38 (by kernel_rfl) rfl rfl ?_
            have hC5 := C_take (Kd.C_below HC5.out S320.ext.below) 50
            refine (Own_at b0 A5 c5 (l5.take 50) 50 (take50 (by omega)) _ hC5 (by rw [List.length_take]; omega) (by rw [List.length_take]; omega)).mono ?_
            rintro e w321 ⟨v, rfl, ho, hb⟩
            obtain ⟨Ab, cb, rfl⟩ := Kd.R_slice ho
            refine ⟨_, rfl, ?_⟩
            have B322 := hb
            have S323 := S320.call B322
            have HRan := Aside0.mk (R_below HRa.out B322)
            clear HRa
            have HRa := HRan
            clear HRan
            have HRb := Aside0.mk ho
            clear ho
            have HBo := S320.ext.size
            refine ⟨trivial, ?_⟩
            refine d_one (listed' := #[true, true, true, true, true, true, true, true, true, true, false, false, false]) 9 rfl (by kernel_rfl) (wn rfl) (by kernel_rfl) ?_
            refine e_store (vs := [.slice Aa l7.length ca]) (cs' := [.int .i64 kd, .int .i64 fd, .int .i64 s0, .int .u32 s1, .bool b0, .slice A5 50 c5, .int .i64 s3, .slice Aa l7.length ca]) (σ' := [⟨g6, true, .cells #[.int .i64 0, .int .i64 0, .int .i64 0, .int .u32 0, .bool false, .slice none 0 0, .int .i64 0, .slice none 0 0] 30 (0, 0)⟩, ⟨g2, true, .cells #[.int .i64 kd, .int .i64 fd, .int .i64 s0, .int .u32 s1, .bool b0, .slice A5 50 c5, .int .i64 s3, .slice Aa l7.length ca] 30 (0, 0)⟩]) S323 rfl rfl rfl rfl sz_24 1 rfl (.inl rfl) rfl rfl rfl ?_
            intro w324 S325 E326
            have HRan := Aside0.mk (R_ext HRa.out E326 (S323.blk 1 rfl) (by decide))
            clear HRa
            have HRa := HRan
            clear HRan
            have HRbn := Aside0.mk (R_ext HRb.out E326 (S323.blk 1 rfl) (by decide))
            clear HRb
            have HRb := HRbn
            clear HRbn
            refine ⟨trivial, ?_⟩
            refine d_take (v := .pointer (some ⟨g2, 2, none⟩)) (listed' := #[true, true, true, true, true, true, true, true, true, true, true, false, false]) 10 rfl (by kernel_rfl) (by kernel_rfl) (by kernel_rfl) rfl (fun _ _ _ h => h) (wn rfl) (fun W hW => r_field fld_30_2 rfl rfl) trivial (by kernel_rfl) ?_
            refine d_take (v := .pointer (some ⟨g2, 4, none⟩)) (listed' := #[true, true, true, true, true, true, true, true, true, true, true, true, false]) 11 rfl (by kernel_rfl) (by kernel_rfl) (by kernel_rfl) rfl (fun _ _ _ h => h) (wn rfl) (fun W hW => r_field fld_28_2 rfl rfl) trivial (by kernel_rfl) ?_
            refine d_one (listed' := #[true, true, true, true, true, true, true, true, true, true, true, true, true]) 12 rfl (by kernel_rfl) (wn rfl) (by kernel_rfl) ?_
            refine e_store (vs := [.bool b0, .slice Ab ((l5.take 50).length) cb]) (cs' := [.int .i64 kd, .int .i64 fd, .int .i64 s0, .int .u32 s1, .bool b0, .slice Ab ((l5.take 50).length) cb, .int .i64 s3, .slice Aa l7.length ca]) (σ' := [⟨g6, true, .cells #[.int .i64 0, .int .i64 0, .int .i64 0, .int .u32 0, .bool false, .slice none 0 0, .int .i64 0, .slice none 0 0] 30 (0, 0)⟩, ⟨g2, true, .cells #[.int .i64 kd, .int .i64 fd, .int .i64 s0, .int .u32 s1, .bool b0, .slice Ab ((l5.take 50).length) cb, .int .i64 s3, .slice Aa l7.length ca] 30 (0, 0)⟩]) S325 rfl rfl rfl rfl sz_26 1 rfl (.inl rfl) rfl rfl rfl ?_
            intro w327 S328 E329
            have HRan := Aside0.mk (R_ext HRa.out E329 (S325.blk 1 rfl) (by decide))
            clear HRa
            have HRa := HRan
            clear HRan
            have HRbn := Aside0.mk (R_ext HRb.out E329 (S325.blk 1 rfl) (by decide))
            clear HRb
            have HRb := HRbn
            clear HRbn
            refine ⟨trivial, ?_⟩
            refine d_done (by kernel_rfl) ?_
            refine x_seq ?_
            refine s_seq ?_
            refine s_region ?_
            refine q_val (v := .agg #[.int .i64 kd, .int .i64 fd, .int .i64 s0, .int .u32 s1, .bool b0, .slice Ab ((l5.take 50).length) cb, .int .i64 s3, .slice Aa l7.length ca]) (wn rfl) rfl (r_loadN (vs := [.int .i64 kd, .int .i64 fd, .int .i64 s0, .int .u32 s1, .bool b0, .slice Ab ((l5.take 50).length) cb, .int .i64 s3, .slice Aa l7.length ca]) sz_30 rfl (S328.blk 1 rfl) rfl rfl) ?_
            refine q_of (wn rfl) ?_
            refine e_store (vs := [.int .i64 kd, .int .i64 fd, .int .i64 s0, .int .u32 s1, .bool b0, .slice Ab ((l5.take 50).length) cb, .int .i64 s3, .slice Aa l7.length ca]) (cs' := [.int .i64 kd, .int .i64 fd, .int .i64 s0, .int .u32 s1, .bool b0, .slice Ab ((l5.take 50).length) cb, .int .i64 s3, .slice Aa l7.length ca]) (σ' := [⟨g6, true, .cells #[.int .i64 kd, .int .i64 fd, .int .i64 s0, .int .u32 s1, .bool b0, .slice Ab ((l5.take 50).length) cb, .int .i64 s3, .slice Aa l7.length ca] 30 (0, 0)⟩, ⟨g2, true, .cells #[.int .i64 kd, .int .i64 fd, .int .i64 s0, .int .u32 s1, .bool b0, .slice Ab ((l5.take 50).length) cb, .int .i64 s3, .slice Aa l7.length ca] 30 (0, 0)⟩]) S328 rfl rfl rfl rfl sz_30 0 rfl (.inl rfl) rfl rfl rfl ?_
            intro w330 S331 E332
            have HRan := Aside0.mk (R_ext HRa.out E332 (S328.blk 0 rfl) (by decide))
            clear HRa
            have HRa := HRan
            clear HRan
            have HRbn := Aside0.mk (R_ext HRb.out E332 (S328.blk 0 rfl) (by decide))
            clear HRb
            have HRb := HRbn
            clear HRbn
            refine q_nil ?_
            refine x_seq ?_
            refine s_ret ?_
            refine t_retc (cs := [.int .i64 kd, .int .i64 fd, .int .i64 s0, .int .u32 s1, .bool b0, .slice Ab ((l5.take 50).length) cb, .int .i64 s3, .slice Aa l7.length ca])  rfl rfl (S331.blk 0 rfl) sz_30 ?_
            have el7 : cut50 l7 = l7 := by unfold cut50; first | rw [if_pos (by omega)] | rw [if_neg (by omega)]
            have el5 : cut50 l5 = (l5.take 50) := by unfold cut50; first | rw [if_pos (by omega)] | rw [if_neg (by omega)]
            rw [el7, el5]
            exact ⟨_, _, rfl, Kd.R_lower HRb.out HBo, HRa.out, S331.ext.below⟩
          · skip
            refine e_val (v := .agg #[.bool b0, .slice A5 50 c5]) rfl (r_loadN (vs := [.bool b0, .slice A5 50 c5]) sz_26 rfl (S318.blk 2 rfl) rfl rfl) ?_
            refine ⟨trivial, ?_⟩
            refine d_one (listed' := #[true, true, true, true, true, true, true, false, false, false, false, false, false]) 3 rfl (by kernel_rfl) (wn rfl) (by kernel_rfl) ?_
            have hC333 : Kd.C (Kd.int .i64) w317 A7 l7.length l7 := Kd.C_below HC7.out S318.ext.below
            obtain ⟨v333, w333, hr333, HRa333, E333⟩ := append_row (c := c7) 24 (empty_row (base := w.heap.size) (S318.blk 0 rfl) (S318.own _ (List.mem_of_getElem? (i := 0) rfl) rfl)) hC333 (by first | (simp; done) | (simp; omega)) (S318.ext.size)
            rw [List.nil_append] at HRa333
            obtain ⟨Aa, ca, rfl⟩ := Kd.R_slice HRa333
            refine e_val (v := .slice Aa l7.length ca) rfl (r_append rfl rfl hr333) ?_
            obtain ⟨S333, F333⟩ := St_app S318 E333
            have HRa := Aside0.mk HRa333
            refine ⟨trivial, ?_⟩
            refine d_take (v := .pointer (some ⟨g2, 7, none⟩)) (listed' := #[true, true, true, true, true, true, true, false, true, false, false, false, false]) 8 rfl (by kernel_rfl) (by kernel_rfl) (by kernel_rfl) rfl (fun _ _ _ h => h) (wn rfl) (fun W hW => r_field fld_30_3 rfl rfl) trivial (by kernel_rfl) ?_
            refine d_one (listed' := #[true, true, true, true, true, true, true, true, true, false, false, false, false]) 7 rfl (by kernel_rfl) (wn rfl) (by kernel_rfl) ?_
            refine e_call (args := [.agg #[.bool b0, .slice A5 50 c5]]) Try.func38 (by kernel_rfl) rfl rfl ?_
            have hC5 := C_take (Kd.C_below HC5.out S333.ext.below) 50
            refine (Own_at b0 A5 c5 (l5.take 50) 50 (take50 (by omega)) _ hC5 (by rw [List.length_take]; omega) (by rw [List.length_take]; omega)).mono ?_
            rintro e w334 ⟨v, rfl, ho, hb⟩
            obtain ⟨Ab, cb, rfl⟩ := Kd.R_slice ho
            refine ⟨_, rfl, ?_⟩
            have B335 := hb
            have S336 := S333.call B335
            have HRan := Aside0.mk (R_below HRa.out B335)
            clear HRa
            have HRa := HRan
            clear HRan
            have HRb := Aside0.mk ho
            clear ho
            have HBo := S333.ext.size
            refine ⟨trivial, ?_⟩
            refine d_one (listed' := #[true, true, true, true, true, true, true, true, true, true, false, false, false]) 9 rfl (by kernel_rfl) (wn rfl) (by kernel_rfl) ?_
            refine e_store (vs := [.slice Aa l7.length ca]) (cs' := [.int .i64 kd, .int .i64 fd, .int .i64 s0, .int .u32 s1, .bool b0, .slice A5 50 c5, .int .i64 s3, .slice Aa l7.length ca]) (σ' := [⟨g6, true, .cells #[.int .i64 0, .int .i64 0, .int .i64 0, .int .u32 0, .bool false, .slice none 0 0, .int .i64 0, .slice none 0 0] 30 (0, 0)⟩, ⟨g2, true, .cells #[.int .i64 kd, .int .i64 fd, .int .i64 s0, .int .u32 s1, .bool b0, .slice A5 50 c5, .int .i64 s3, .slice Aa l7.length ca] 30 (0, 0)⟩]) S336 rfl rfl rfl rfl sz_24 1 rfl (.inl rfl) rfl rfl rfl ?_
            intro w337 S338 E339
            have HRan := Aside0.mk (R_ext HRa.out E339 (S336.blk 1 rfl) (by decide))
            clear HRa
            have HRa := HRan
            clear HRan
            have HRbn := Aside0.mk (R_ext HRb.out E339 (S336.blk 1 rfl) (by decide))
            clear HRb
            have HRb := HRbn
            clear HRbn
            refine ⟨trivial, ?_⟩
            refine d_take (v := .pointer (some ⟨g2, 2, none⟩)) (listed' := #[true, true, true, true, true, true, true, true, true, true, true, false, false]) 10 rfl (by kernel_rfl) (by kernel_rfl) (by kernel_rfl) rfl (fun _ _ _ h => h) (wn rfl) (fun W hW => r_field fld_30_2 rfl rfl) trivial (by kernel_rfl) ?_
            refine d_take (v := .pointer (some ⟨g2, 4, none⟩)) (listed' := #[true, true, true, true, true, true, true, true, true, true, true, true, false]) 11 rfl (by kernel_rfl) (by kernel_rfl) (by kernel_rfl) rfl (fun _ _ _ h => h) (wn rfl) (fun W hW => r_field fld_28_2 rfl rfl) trivial (by kernel_rfl) ?_
            refine d_one (listed' := #[true, true, true, true, true, true, true, true, true, true, true, true, true]) 12 rfl (by kernel_rfl) (wn rfl) (by kernel_rfl) ?_
            refine e_store (vs := [.bool b0, .slice Ab ((l5.take 50).length) cb]) (cs' := [.int .i64 kd, .int .i64 fd, .int .i64 s0, .int .u32 s1, .bool b0, .slice Ab ((l5.take 50).length) cb, .int .i64 s3, .slice Aa l7.length ca]) (σ' := [⟨g6, true, .cells #[.int .i64 0, .int .i64 0, .int .i64 0, .int .u32 0, .bool false, .slice none 0 0, .int .i64 0, .slice none 0 0] 30 (0, 0)⟩, ⟨g2, true, .cells #[.int .i64 kd, .int .i64 fd, .int .i64 s0, .int .u32 s1, .bool b0, .slice Ab ((l5.take 50).length) cb, .int .i64 s3, .slice Aa l7.length ca] 30 (0, 0)⟩]) S338 rfl rfl rfl rfl sz_26 1 rfl (.inl rfl) rfl rfl rfl ?_
            intro w340 S341 E342
            have HRan := Aside0.mk (R_ext HRa.out E342 (S338.blk 1 rfl) (by decide))
            clear HRa
            have HRa := HRan
            clear HRan
            have HRbn := Aside0.mk (R_ext HRb.out E342 (S338.blk 1 rfl) (by decide))
            clear HRb
            have HRb := HRbn
            clear HRbn
            refine ⟨trivial, ?_⟩
            refine d_done (by kernel_rfl) ?_
            refine x_seq ?_
            refine s_seq ?_
            refine s_region ?_
            refine q_val (v := .agg #[.int .i64 kd, .int .i64 fd, .int .i64 s0, .int .u32 s1, .bool b0, .slice Ab ((l5.take 50).length) cb, .int .i64 s3, .slice Aa l7.length ca]) (wn rfl) rfl (r_loadN (vs := [.int .i64 kd, .int .i64 fd, .int .i64 s0, .int .u32 s1, .bool b0, .slice Ab ((l5.take 50).length) cb, .int .i64 s3, .slice Aa l7.length ca]) sz_30 rfl (S341.blk 1 rfl) rfl rfl) ?_
            refine q_of (wn rfl) ?_
            refine e_store (vs := [.int .i64 kd, .int .i64 fd, .int .i64 s0, .int .u32 s1, .bool b0, .slice Ab ((l5.take 50).length) cb, .int .i64 s3, .slice Aa l7.length ca]) (cs' := [.int .i64 kd, .int .i64 fd, .int .i64 s0, .int .u32 s1, .bool b0, .slice Ab ((l5.take 50).length) cb, .int .i64 s3, .slice Aa l7.length ca]) (σ' := [⟨g6, true, .cells #[.int .i64 kd, .int .i64 fd, .int .i64 s0, .int .u32 s1, .bool b0, .slice Ab ((l5.take 50).length) cb, .int .i64 s3, .slice Aa l7.length ca] 30 (0, 0)⟩, ⟨g2, true, .cells #[.int .i64 kd, .int .i64 fd, .int .i64 s0, .int .u32 s1, .bool b0, .slice Ab ((l5.take 50).length) cb, .int .i64 s3, .slice Aa l7.length ca] 30 (0, 0)⟩]) S341 rfl rfl rfl rfl sz_30 0 rfl (.inl rfl) rfl rfl rfl ?_
            intro w343 S344 E345
            have HRan := Aside0.mk (R_ext HRa.out E345 (S341.blk 0 rfl) (by decide))
            clear HRa
            have HRa := HRan
            clear HRan
            have HRbn := Aside0.mk (R_ext HRb.out E345 (S341.blk 0 rfl) (by decide))
            clear HRb
            have HRb := HRbn
            clear HRbn
            refine q_nil ?_
            refine x_seq ?_
            refine s_ret ?_
            refine t_retc (cs := [.int .i64 kd, .int .i64 fd, .int .i64 s0, .int .u32 s1, .bool b0, .slice Ab ((l5.take 50).length) cb, .int .i64 s3, .slice Aa l7.length ca])  rfl rfl (S344.blk 0 rfl) sz_30 ?_
            have el7 : cut50 l7 = l7 := by unfold cut50; first | rw [if_pos (by omega)] | rw [if_neg (by omega)]
            have el5 : cut50 l5 = (l5.take 50) := by unfold cut50; first | rw [if_pos (by omega)] | rw [if_neg (by omega)]
            rw [el7, el5]
            exact ⟨_, _, rfl, Kd.R_lower HRb.out HBo, HRa.out, S344.ext.below⟩
        · skip
          refine e_val (v := .agg #[.bool b0, .slice A5 50 c5]) rfl (r_loadN (vs := [.bool b0, .slice A5 50 c5]) sz_26 rfl (S271.blk 1 rfl) rfl rfl) ?_
          refine ⟨trivial, ?_⟩
          refine d_one (listed' := #[true, true, true, false, true, true, true, false, false, false, false, false, false]) 0 rfl (by kernel_rfl) (wn rfl) (by kernel_rfl) ?_
          refine e_new (vf := fun g => .slice (some ⟨g, 0, none⟩) 0 0) (ob := .cells #[] 3) rfl S271 (r_buildSlice (ps := []) rfl (by kernel_rfl)) ?_
          intro g346 w347 hg346 S348 B349
          refine ⟨trivial, ?_⟩
          refine d_one (listed' := #[true, true, true, true, true, true, true, false, false, false, false, false, false]) 3 rfl (by kernel_rfl) (wn rfl) (by kernel_rfl) ?_
          have hC350 : Kd.C (Kd.int .i64) w347 A7 l7.length l7 := Kd.C_below HC7.out S348.ext.below
          obtain ⟨v350, w350, hr350, HRa350, E350⟩ := append_row (c := c7) 24 (empty_row (base := w.heap.size) (S348.blk 0 rfl) (S348.own _ (List.mem_of_getElem? (i := 0) rfl) rfl)) hC350 (by first | (simp; done) | (simp; omega)) (S348.ext.size)
          rw [List.nil_append] at HRa350
          obtain ⟨Aa, ca, rfl⟩ := Kd.R_slice HRa350
          refine e_val (v := .slice Aa l7.length ca) rfl (r_append rfl rfl hr350) ?_
          obtain ⟨S350, F350⟩ := St_app S348 E350
          have HRa := Aside0.mk HRa350
          refine ⟨trivial, ?_⟩
          refine d_take (v := .pointer (some ⟨g2, 7, none⟩)) (listed' := #[true, true, true, true, true, true, true, false, true, false, false, false, false]) 8 rfl (by kernel_rfl) (by kernel_rfl) (by kernel_rfl) rfl (fun _ _ _ h => h) (wn rfl) (fun W hW => r_field fld_30_3 rfl rfl) trivial (by kernel_rfl) ?_
          refine d_one (listed' := #[true, true, true, true, true, true, true, true, true, false, false, false, false]) 7 rfl (by kernel_rfl) (wn rfl) (by kernel_rfl) ?_
          refine e_call (args := [.agg #[.bool b0, .slice A5 50 c5]]) Try.func38 (by kernel_rfl) rfl rfl ?_
          have hC5 := C_take (Kd.C_below HC5.out S350.ext.below) 50
          refine (Own_at b0 A5 c5 (l5.take 50) 50 (take50 (by omega)) _ hC5 (by rw [List.length_take]; omega) (by rw [List.length_take]; omega)).mono ?_
          rintro e w351 ⟨v, rfl, ho, hb⟩
          obtain ⟨Ab, cb, rfl⟩ := Kd.R_slice ho
          refine ⟨_, rfl, ?_⟩
          have B352 := hb
          have S353 := S350.call B352
          have HRan := Aside0.mk (R_below HRa.out B352)
          clear HRa
          have HRa := HRan
          clear HRan
          have HRb := Aside0.mk ho
          clear ho
          have HBo := S350.ext.size
          refine ⟨trivial, ?_⟩
          refine d_one (listed' := #[true, true, true, true, true, true, true, true, true, true, false, false, false]) 9 rfl (by kernel_rfl) (wn rfl) (by kernel_rfl) ?_
          refine e_store (vs := [.slice Aa l7.length ca]) (cs' := [.int .i64 kd, .int .i64 fd, .int .i64 s0, .int .u32 s1, .bool b0, .slice A5 50 c5, .int .i64 s3, .slice Aa l7.length ca]) (σ' := [⟨g6, true, .cells #[.int .i64 0, .int .i64 0, .int .i64 0, .int .u32 0, .bool false, .slice none 0 0, .int .i64 0, .slice none 0 0] 30 (0, 0)⟩, ⟨g2, true, .cells #[.int .i64 kd, .int .i64 fd, .int .i64 s0, .int .u32 s1, .bool b0, .slice A5 50 c5, .int .i64 s3, .slice Aa l7.length ca] 30 (0, 0)⟩]) S353 rfl rfl rfl rfl sz_24 1 rfl (.inl rfl) rfl rfl rfl ?_
          intro w354 S355 E356
          have HRan := Aside0.mk (R_ext HRa.out E356 (S353.blk 1 rfl) (by decide))
          clear HRa
          have HRa := HRan
          clear HRan
          have HRbn := Aside0.mk (R_ext HRb.out E356 (S353.blk 1 rfl) (by decide))
          clear HRb
          have HRb := HRbn
          clear HRbn
          refine ⟨trivial, ?_⟩
          refine d_take (v := .pointer (some ⟨g2, 2, none⟩)) (listed' := #[true, true, true, true, true, true, true, true, true, true, true, false, false]) 10 rfl (by kernel_rfl) (by kernel_rfl) (by kernel_rfl) rfl (fun _ _ _ h => h) (wn rfl) (fun W hW => r_field fld_30_2 rfl rfl) trivial (by kernel_rfl) ?_
          refine d_take (v := .pointer (some ⟨g2, 4, none⟩)) (listed' := #[true, true, true, true, true, true, true, true, true, true, true, true, false]) 11 rfl (by kernel_rfl) (by kernel_rfl) (by kernel_rfl) rfl (fun _ _ _ h => h) (wn rfl) (fun W hW => r_field fld_28_2 rfl rfl) trivial (by kernel_rfl) ?_
          refine d_one (listed' := #[true, true, true, true, true, true, true, true, true, true, true, true, true]) 12 rfl (by kernel_rfl) (wn rfl) (by kernel_rfl) ?_
          refine e_store (vs := [.bool b0, .slice Ab ((l5.take 50).length) cb]) (cs' := [.int .i64 kd, .int .i64 fd, .int .i64 s0, .int .u32 s1, .bool b0, .slice Ab ((l5.take 50).length) cb, .int .i64 s3, .slice Aa l7.length ca]) (σ' := [⟨g6, true, .cells #[.int .i64 0, .int .i64 0, .int .i64 0, .int .u32 0, .bool false, .slice none 0 0, .int .i64 0, .slice none 0 0] 30 (0, 0)⟩, ⟨g2, true, .cells #[.int .i64 kd, .int .i64 fd, .int .i64 s0, .int .u32 s1, .bool b0, .slice Ab ((l5.take 50).length) cb, .int .i64 s3, .slice Aa l7.length ca] 30 (0, 0)⟩]) S355 rfl rfl rfl rfl sz_26 1 rfl (.inl rfl) rfl rfl rfl ?_
          intro w357 S358 E359
          have HRan := Aside0.mk (R_ext HRa.out E359 (S355.blk 1 rfl) (by decide))
          clear HRa
          have HRa := HRan
          clear HRan
          have HRbn := Aside0.mk (R_ext HRb.out E359 (S355.blk 1 rfl) (by decide))
          clear HRb
          have HRb := HRbn
          clear HRbn
          refine ⟨trivial, ?_⟩
          refine d_done (by kernel_rfl) ?_
          refine x_seq ?_
          refine s_seq ?_
          refine s_region ?_
          refine q_val (v := .agg #[.int .i64 kd, .int .i64 fd, .int .i64 s0, .int .u32 s1, .bool b0, .slice Ab ((l5.take 50).length) cb, .int .i64 s3, .slice Aa l7.length ca]) (wn rfl) rfl (r_loadN (vs := [.int .i64 kd, .int .i64 fd, .int .i64 s0, .int .u32 s1, .bool b0, .slice Ab ((l5.take 50).length) cb, .int .i64 s3, .slice Aa l7.length ca]) sz_30 rfl (S358.blk 1 rfl) rfl rfl) ?_
          refine q_of (wn rfl) ?_
          refine e_store (vs := [.int .i64 kd, .int .i64 fd, .int .i64 s0, .int .u32 s1, .bool b0, .slice Ab ((l5.take 50).length) cb, .int .i64 s3, .slice Aa l7.length ca]) (cs' := [.int .i64 kd, .int .i64 fd, .int .i64 s0, .int .u32 s1, .bool b0, .slice Ab ((l5.take 50).length) cb, .int .i64 s3, .slice Aa l7.length ca]) (σ' := [⟨g6, true, .cells #[.int .i64 kd, .int .i64 fd, .int .i64 s0, .int .u32 s1, .bool b0, .slice Ab ((l5.take 50).length) cb, .int .i64 s3, .slice Aa l7.length ca] 30 (0, 0)⟩, ⟨g2, true, .cells #[.int .i64 kd, .int .i64 fd, .int .i64 s0, .int .u32 s1, .bool b0, .slice Ab ((l5.take 50).length) cb, .int .i64 s3, .slice Aa l7.length ca] 30 (0, 0)⟩]) S358 rfl rfl rfl rfl sz_30 0 rfl (.inl rfl) rfl rfl rfl ?_
          intro w360 S361 E362
          have HRan := Aside0.mk (R_ext HRa.out E362 (S358.blk 0 rfl) (by decide))
          clear HRa
          have HRa := HRan
          clear HRan
          have HRbn := Aside0.mk (R_ext HRb.out E362 (S358.blk 0 rfl) (by decide))
          clear HRb
          have HRb := HRbn
          clear HRbn
          refine q_nil ?_
          refine x_seq ?_
          refine s_ret ?_
          refine t_retc (cs := [.int .i64 kd, .int .i64 fd, .int .i64 s0, .int .u32 s1, .bool b0, .slice Ab ((l5.take 50).length) cb, .int .i64 s3, .slice Aa l7.length ca])  rfl rfl (S361.blk 0 rfl) sz_30 ?_
          have el7 : cut50 l7 = l7 := by unfold cut50; first | rw [if_pos (by omega)] | rw [if_neg (by omega)]
          have el5 : cut50 l5 = (l5.take 50) := by unfold cut50; first | rw [if_pos (by omega)] | rw [if_neg (by omega)]
          rw [el7, el5]
          exact ⟨_, _, rfl, Kd.R_lower HRb.out HBo, HRa.out, S361.ext.below⟩
      · skip
        refine e_val (v := .agg #[.bool b0, .slice A5 50 c5]) rfl (r_loadN (vs := [.bool b0, .slice A5 50 c5]) sz_26 rfl (S271.blk 1 rfl) rfl rfl) ?_
        refine ⟨trivial, ?_⟩
        refine d_two (listed' := #[true, true, false, false, true, true, true, false, false, false, false, false, false]) (listed'' := #[false, true, true, false, true, true, true, false, false, false, false, false, false]) 0 2 rfl rfl (by kernel_rfl) (wn rfl) (wn rfl) (by kernel_rfl) (by kernel_rfl) ?_ ?_
        · skip
          refine e_new (vf := fun g => .slice (some ⟨g, 0, none⟩) 0 0) (ob := .cells #[] 3) rfl S271 (r_buildSlice (ps := []) rfl (by kernel_rfl)) ?_
          intro g363 w364 hg363 S365 B366
          refine ⟨trivial, ?_⟩
          refine d_one (listed' := #[true, true, true, false, true, true, true, false, false, false, false, false, false]) 2 rfl (by kernel_rfl) (wn rfl) (by kernel_rfl) ?_
          refine e_val (v := .slice A7 l7.length c7) rfl (r_load1 sz_24 rfl (S365.cell 2 rfl rfl)) ?_
          refine ⟨trivial, ?_⟩
          refine d_one (listed' := #[true, true, true, true, true, true, true, false, false, false, false, false, false]) 3 rfl (by kernel_rfl) (wn rfl) (by kernel_rfl) ?_
          have hC367 : Kd.C (Kd.int .i64) w364 A7 l7.length l7 := Kd.C_below HC7.out S365.ext.below
          obtain ⟨v367, w367, hr367, HRa367, E367⟩ := append_row (c := c7) 24 (empty_row (base := w.heap.size) (S365.blk 0 rfl) (S365.own _ (List.mem_of_getElem? (i := 0) rfl) rfl)) hC367 (by first | (simp; done) | (simp; omega)) (S365.ext.size)
          rw [List.nil_append] at HRa367
          obtain ⟨Aa, ca, rfl⟩ := Kd.R_slice HRa367
          refine e_val (v := .slice Aa l7.length ca) rfl (r_append rfl rfl hr367) ?_
          obtain ⟨S367, F367⟩ := St_app S365 E367
          have HRa := Aside0.mk HRa367
          refine ⟨trivial, ?_⟩
          refine d_take (v := .pointer (some ⟨g2, 7, none⟩)) (listed' := #[true, true, true, true, true, true, true, false, true, false, false, false, false]) 8 rfl (by kernel_rfl) (by kernel_rfl) (by kernel_rfl) rfl (fun _ _ _ h => h) (wn rfl) (fun W hW => r_field fld_30_3 rfl rfl) trivial (by kernel_rfl) ?_
          refine d_one (listed' := #[true, true, true, true, true, true, true, true, true, false, false, false, false]) 7 rfl (by kernel_rfl) (wn rfl) (by kernel_rfl) ?_
          refine e_call (args := [.agg #[.bool b0, .slice A5 50 c5]]) Try.func38 (by kernel_rfl) rfl rfl ?_
          have hC5 := C_take (Kd.C_below HC5.out S367.ext.below) 50
          refine (Own_at b0 A5 c5 (l5.take 50) 50 (take50 (by omega)) _ hC5 (by rw [List.length_take]; omega) (by rw [List.length_take]; omega)).mono ?_
          rintro e w368 ⟨v, rfl, ho, hb⟩
          obtain ⟨Ab, cb, rfl⟩ := Kd.R_slice ho
          refine ⟨_, rfl, ?_⟩
          have B369 := hb
          have S370 := S367.call B369
          have HRan := Aside0.mk (R_below HRa.out B369)
          clear HRa
          have HRa := HRan
          clear HRan
          have HRb := Aside0.mk ho
          clear ho
          have HBo := S367.ext.size
          refine ⟨trivial, ?_⟩
          refine d_one (listed' := #[true, true, true, true, true, true, true, true, true, true, false, false, false]) 9 rfl (by kernel_rfl) (wn rfl) (by kernel_rfl) ?_
          refine e_store (vs := [.slice Aa l7.length ca]) (cs' := [.int .i64 kd, .int .i64 fd, .int .i64 s0, .int .u32 s1, .bool b0, .slice A5 50 c5, .int .i64 s3, .slice Aa l7.length ca]) (σ' := [⟨g6, true, .cells #[.int .i64 0, .int .i64 0, .int .i64 0, .int .u32 0, .bool false, .slice none 0 0, .int .i64 0, .slice none 0 0] 30 (0, 0)⟩, ⟨g2, true, .cells #[.int .i64 kd, .int .i64 fd, .int .i64 s0, .int .u32 s1, .bool b0, .slice A5 50 c5, .int .i64 s3, .slice Aa l7.length ca] 30 (0, 0)⟩]) S370 rfl rfl rfl rfl sz_24 1 rfl (.inl rfl) rfl rfl rfl ?_
          intro w371 S372 E373
          have HRan := Aside0.mk (R_ext HRa.out E373 (S370.blk 1 rfl) (by decide))
          clear HRa
          have HRa := HRan
          clear HRan
          have HRbn := Aside0.mk (R_ext HRb.out E373 (S370.blk 1 rfl) (by decide))
          clear HRb
          have HRb := HRbn
          clear HRbn
          refine ⟨trivial, ?_⟩
          refine d_take (v := .pointer (some ⟨g2, 2, none⟩)) (listed' := #[true, true, true, true, true, true, true, true, true, true, true, false, false]) 10 rfl (by kernel_rfl) (by kernel_rfl) (by kernel_rfl) rfl (fun _ _ _ h => h) (wn rfl) (fun W hW => r_field fld_30_2 rfl rfl) trivial (by kernel_rfl) ?_
          refine d_take (v := .pointer (some ⟨g2, 4, none⟩)) (listed' := #[true, true, true, true, true, true, true, true, true, true, true, true, false]) 11 rfl (by kernel_rfl) (by kernel_rfl) (by kernel_rfl) rfl (fun _ _ _ h => h) (wn rfl) (fun W hW => r_field fld_28_2 rfl rfl) trivial (by kernel_rfl) ?_
          refine d_one (listed' := #[true, true, true, true, true, true, true, true, true, true, true, true, true]) 12 rfl (by kernel_rfl) (wn rfl) (by kernel_rfl) ?_
          refine e_store (vs := [.bool b0, .slice Ab ((l5.take 50).length) cb]) (cs' := [.int .i64 kd, .int .i64 fd, .int .i64 s0, .int .u32 s1, .bool b0, .slice Ab ((l5.take 50).length) cb, .int .i64 s3, .slice Aa l7.length ca]) (σ' := [⟨g6, true, .cells #[.int .i64 0, .int .i64 0, .int .i64 0, .int .u32 0, .bool false, .slice none 0 0, .int .i64 0, .slice none 0 0] 30 (0, 0)⟩, ⟨g2, true, .cells #[.int .i64 kd, .int .i64 fd, .int .i64 s0, .int .u32 s1, .bool b0, .slice Ab ((l5.take 50).length) cb, .int .i64 s3, .slice Aa l7.length ca] 30 (0, 0)⟩]) S372 rfl rfl rfl rfl sz_26 1 rfl (.inl rfl) rfl rfl rfl ?_
          intro w374 S375 E376
          have HRan := Aside0.mk (R_ext HRa.out E376 (S372.blk 1 rfl) (by decide))
          clear HRa
          have HRa := HRan
          clear HRan
          have HRbn := Aside0.mk (R_ext HRb.out E376 (S372.blk 1 rfl) (by decide))
          clear HRb
          have HRb := HRbn
          clear HRbn
          refine ⟨trivial, ?_⟩
          refine d_done (by kernel_rfl) ?_
          refine x_seq ?_
          refine s_seq ?_
          refine s_region ?_
          refine q_val (v := .agg #[.int .i64 kd, .int .i64 fd, .int .i64 s0, .int .u32 s1, .bool b0, .slice Ab ((l5.take 50).length) cb, .int .i64 s3, .slice Aa l7.length ca]) (wn rfl) rfl (r_loadN (vs := [.int .i64 kd, .int .i64 fd, .int .i64 s0, .int .u32 s1, .bool b0, .slice Ab ((l5.take 50).length) cb, .int .i64 s3, .slice Aa l7.length ca]) sz_30 rfl (S375.blk 1 rfl) rfl rfl) ?_
          refine q_of (wn rfl) ?_
          refine e_store (vs := [.int .i64 kd, .int .i64 fd, .int .i64 s0, .int .u32 s1, .bool b0, .slice Ab ((l5.take 50).length) cb, .int .i64 s3, .slice Aa l7.length ca]) (cs' := [.int .i64 kd, .int .i64 fd, .int .i64 s0, .int .u32 s1, .bool b0, .slice Ab ((l5.take 50).length) cb, .int .i64 s3, .slice Aa l7.length ca]) (σ' := [⟨g6, true, .cells #[.int .i64 kd, .int .i64 fd, .int .i64 s0, .int .u32 s1, .bool b0, .slice Ab ((l5.take 50).length) cb, .int .i64 s3, .slice Aa l7.length ca] 30 (0, 0)⟩, ⟨g2, true, .cells #[.int .i64 kd, .int .i64 fd, .int .i64 s0, .int .u32 s1, .bool b0, .slice Ab ((l5.take 50).length) cb, .int .i64 s3, .slice Aa l7.length ca] 30 (0, 0)⟩]) S375 rfl rfl rfl rfl sz_30 0 rfl (.inl rfl) rfl rfl rfl ?_
          intro w377 S378 E379
          have HRan := Aside0.mk (R_ext HRa.out E379 (S375.blk 0 rfl) (by decide))
          clear HRa
          have HRa := HRan
          clear HRan
          have HRbn := Aside0.mk (R_ext HRb.out E379 (S375.blk 0 rfl) (by decide))
          clear HRb
          have HRb := HRbn
          clear HRbn
          refine q_nil ?_
          refine x_seq ?_
          refine s_ret ?_
          refine t_retc (cs := [.int .i64 kd, .int .i64 fd, .int .i64 s0, .int .u32 s1, .bool b0, .slice Ab ((l5.take 50).length) cb, .int .i64 s3, .slice Aa l7.length ca])  rfl rfl (S378.blk 0 rfl) sz_30 ?_
          have el7 : cut50 l7 = l7 := by unfold cut50; first | rw [if_pos (by omega)] | rw [if_neg (by omega)]
          have el5 : cut50 l5 = (l5.take 50) := by unfold cut50; first | rw [if_pos (by omega)] | rw [if_neg (by omega)]
          rw [el7, el5]
          exact ⟨_, _, rfl, Kd.R_lower HRb.out HBo, HRa.out, S378.ext.below⟩
        · skip
          refine e_val (v := .slice A7 l7.length c7) rfl (r_load1 sz_24 rfl (S271.cell 1 rfl rfl)) ?_
          refine ⟨trivial, ?_⟩
          refine d_one (listed' := #[true, true, true, false, true, true, true, false, false, false, false, false, false]) 0 rfl (by kernel_rfl) (wn rfl) (by kernel_rfl) ?_
          refine e_new (vf := fun g => .slice (some ⟨g, 0, none⟩) 0 0) (ob := .cells #[] 3) rfl S271 (r_buildSlice (ps := []) rfl (by kernel_rfl)) ?_
          intro g380 w381 hg380 S382 B383
          refine ⟨trivial, ?_⟩
          refine d_one (listed' := #[true, true, true, true, true, true, true, false, false, false, false, false, false]) 3 rfl (by kernel_rfl) (wn rfl) (by kernel_rfl) ?_
          have hC384 : Kd.C (Kd.int .i64) w381 A7 l7.length l7 := Kd.C_below HC7.out S382.ext.below
          obtain ⟨v384, w384, hr384, HRa384, E384⟩ := append_row (c := c7) 24 (empty_row (base := w.heap.size) (S382.blk 0 rfl) (S382.own _ (List.mem_of_getElem? (i := 0) rfl) rfl)) hC384 (by first | (simp; done) | (simp; omega)) (S382.ext.size)
          rw [List.nil_append] at HRa384
          obtain ⟨Aa, ca, rfl⟩ := Kd.R_slice HRa384
          refine e_val (v := .slice Aa l7.length ca) rfl (r_append rfl rfl hr384) ?_
          obtain ⟨S384, F384⟩ := St_app S382 E384
          have HRa := Aside0.mk HRa384
          refine ⟨trivial, ?_⟩
          refine d_take (v := .pointer (some ⟨g2, 7, none⟩)) (listed' := #[true, true, true, true, true, true, true, false, true, false, false, false, false]) 8 rfl (by kernel_rfl) (by kernel_rfl) (by kernel_rfl) rfl (fun _ _ _ h => h) (wn rfl) (fun W hW => r_field fld_30_3 rfl rfl) trivial (by kernel_rfl) ?_
          refine d_one (listed' := #[true, true, true, true, true, true, true, true, true, false, false, false, false]) 7 rfl (by kernel_rfl) (wn rfl) (by kernel_rfl) ?_
          refine e_call (args := [.agg #[.bool b0, .slice A5 50 c5]]) Try.func38 (by kernel_rfl) rfl rfl ?_
          have hC5 := C_take (Kd.C_below HC5.out S384.ext.below) 50
          refine (Own_at b0 A5 c5 (l5.take 50) 50 (take50 (by omega)) _ hC5 (by rw [List.length_take]; omega) (by rw [List.length_take]; omega)).mono ?_
          rintro e w385 ⟨v, rfl, ho, hb⟩
          obtain ⟨Ab, cb, rfl⟩ := Kd.R_slice ho
          refine ⟨_, rfl, ?_⟩
          have B386 := hb
          have S387 := S384.call B386
          have HRan := Aside0.mk (R_below HRa.out B386)
          clear HRa
          have HRa := HRan
          clear HRan
          have HRb := Aside0.mk ho
          clear ho
          have HBo := S384.ext.size
          refine ⟨trivial, ?_⟩
          refine d_one (listed' := #[true, true, true, true, true, true, true, true, true, true, false, false, false]) 9 rfl (by kernel_rfl) (wn rfl) (by kernel_rfl) ?_
          refine e_store (vs := [.slice Aa l7.length ca]) (cs' := [.int .i64 kd, .int .i64 fd, .int .i64 s0, .int .u32 s1, .bool b0, .slice A5 50 c5, .int .i64 s3, .slice Aa l7.length ca]) (σ' := [⟨g6, true, .cells #[.int .i64 0, .int .i64 0, .int .i64 0, .int .u32 0, .bool false, .slice none 0 0, .int .i64 0, .slice none 0 0] 30 (0, 0)⟩, ⟨g2, true, .cells #[.int .i64 kd, .int .i64 fd, .int .i64 s0, .int .u32 s1, .bool b0, .slice A5 50 c5, .int .i64 s3, .slice Aa l7.length ca] 30 (0, 0)⟩]) S387 rfl rfl rfl rfl sz_24 1 rfl (.inl rfl) rfl rfl rfl ?_
          intro w388 S389 E390
          have HRan := Aside0.mk (R_ext HRa.out E390 (S387.blk 1 rfl) (by decide))
          clear HRa
          have HRa := HRan
          clear HRan
          have HRbn := Aside0.mk (R_ext HRb.out E390 (S387.blk 1 rfl) (by decide))
          clear HRb
          have HRb := HRbn
          clear HRbn
          refine ⟨trivial, ?_⟩
          refine d_take (v := .pointer (some ⟨g2, 2, none⟩)) (listed' := #[true, true, true, true, true, true, true, true, true, true, true, false, false]) 10 rfl (by kernel_rfl) (by kernel_rfl) (by kernel_rfl) rfl (fun _ _ _ h => h) (wn rfl) (fun W hW => r_field fld_30_2 rfl rfl) trivial (by kernel_rfl) ?_
          refine d_take (v := .pointer (some ⟨g2, 4, none⟩)) (listed' := #[true, true, true, true, true, true, true, true, true, true, true, true, false]) 11 rfl (by kernel_rfl) (by kernel_rfl) (by kernel_rfl) rfl (fun _ _ _ h => h) (wn rfl) (fun W hW => r_field fld_28_2 rfl rfl) trivial (by kernel_rfl) ?_
          refine d_one (listed' := #[true, true, true, true, true, true, true, true, true, true, true, true, true]) 12 rfl (by kernel_rfl) (wn rfl) (by kernel_rfl) ?_
          refine e_store (vs := [.bool b0, .slice Ab ((l5.take 50).length) cb]) (cs' := [.int .i64 kd, .int .i64 fd, .int .i64 s0, .int .u32 s1, .bool b0, .slice Ab ((l5.take 50).length) cb, .int .i64 s3, .slice Aa l7.length ca]) (σ' := [⟨g6, true, .cells #[.int .i64 0, .int .i64 0, .int .i64 0, .int .u32 0, .bool false, .slice none 0 0, .int .i64 0, .slice none 0 0] 30 (0, 0)⟩, ⟨g2, true, .cells #[.int .i64 kd, .int .i64 fd, .int .i64 s0, .int .u32 s1, .bool b0, .slice Ab ((l5.take 50).length) cb, .int .i64 s3, .slice Aa l7.length ca] 30 (0, 0)⟩]) S389 rfl rfl rfl rfl sz_26 1 rfl (.inl rfl) rfl rfl rfl ?_
          intro w391 S392 E393
          have HRan := Aside0.mk (R_ext HRa.out E393 (S389.blk 1 rfl) (by decide))
          clear HRa
          have HRa := HRan
          clear HRan
          have HRbn := Aside0.mk (R_ext HRb.out E393 (S389.blk 1 rfl) (by decide))
          clear HRb
          have HRb := HRbn
          clear HRbn
          refine ⟨trivial, ?_⟩
          refine d_done (by kernel_rfl) ?_
          refine x_seq ?_
          refine s_seq ?_
          refine s_region ?_
          refine q_val (v := .agg #[.int .i64 kd, .int .i64 fd, .int .i64 s0, .int .u32 s1, .bool b0, .slice Ab ((l5.take 50).length) cb, .int .i64 s3, .slice Aa l7.length ca]) (wn rfl) rfl (r_loadN (vs := [.int .i64 kd, .int .i64 fd, .int .i64 s0, .int .u32 s1, .bool b0, .slice Ab ((l5.take 50).length) cb, .int .i64 s3, .slice Aa l7.length ca]) sz_30 rfl (S392.blk 1 rfl) rfl rfl) ?_
          refine q_of (wn rfl) ?_
          refine e_store (vs := [.int .i64 kd, .int .i64 fd, .int .i64 s0, .int .u32 s1, .bool b0, .slice Ab ((l5.take 50).length) cb, .int .i64 s3, .slice Aa l7.length ca]) (cs' := [.int .i64 kd, .int .i64 fd, .int .i64 s0, .int .u32 s1, .bool b0, .slice Ab ((l5.take 50).length) cb, .int .i64 s3, .slice Aa l7.length ca]) (σ' := [⟨g6, true, .cells #[.int .i64 kd, .int .i64 fd, .int .i64 s0, .int .u32 s1, .bool b0, .slice Ab ((l5.take 50).length) cb, .int .i64 s3, .slice Aa l7.length ca] 30 (0, 0)⟩, ⟨g2, true, .cells #[.int .i64 kd, .int .i64 fd, .int .i64 s0, .int .u32 s1, .bool b0, .slice Ab ((l5.take 50).length) cb, .int .i64 s3, .slice Aa l7.length ca] 30 (0, 0)⟩]) S392 rfl rfl rfl rfl sz_30 0 rfl (.inl rfl) rfl rfl rfl ?_
          intro w394 S395 E396
          have HRan := Aside0.mk (R_ext HRa.out E396 (S392.blk 0 rfl) (by decide))
          clear HRa
          have HRa := HRan
          clear HRan
          have HRbn := Aside0.mk (R_ext HRb.out E396 (S392.blk 0 rfl) (by decide))
          clear HRb
          have HRb := HRbn
          clear HRbn
          refine q_nil ?_
          refine x_seq ?_
          refine s_ret ?_
          refine t_retc (cs := [.int .i64 kd, .int .i64 fd, .int .i64 s0, .int .u32 s1, .bool b0, .slice Ab ((l5.take 50).length) cb, .int .i64 s3, .slice Aa l7.length ca])  rfl rfl (S395.blk 0 rfl) sz_30 ?_
          have el7 : cut50 l7 = l7 := by unfold cut50; first | rw [if_pos (by omega)] | rw [if_neg (by omega)]
          have el5 : cut50 l5 = (l5.take 50) := by unfold cut50; first | rw [if_pos (by omega)] | rw [if_neg (by omega)]
          rw [el7, el5]
          exact ⟨_, _, rfl, Kd.R_lower HRb.out HBo, HRa.out, S395.ext.below⟩
    · skip
      refine q_val (v := .bool false) (wn rfl) rfl (r_gtr rfl rfl (decide_eq_false (h5))) ?_
      refine q_nil ?_
      refine x_seq ?_
      refine s_false rfl ?_
      refine s_skip ?_
      refine x_seq ?_
      refine s_seq ?_
      refine d_start mix (fun _ => True) ?_
      have S397 := S8.draw
      generalize w7.drew = w398 at S397 ⊢
      refine d_take (v := .pointer (some ⟨g2, 7, none⟩)) (listed' := #[false, true, false, false, false, false, false, false, false, false, false, false, false]) 1 rfl (by kernel_rfl) (by kernel_rfl) (by kernel_rfl) rfl (fun _ _ _ h => h) (wn rfl) (fun W hW => r_field fld_30_3 rfl rfl) trivial (by kernel_rfl) ?_
      refine d_take (v := .pointer (some ⟨g2, 2, none⟩)) (listed' := #[false, true, false, false, true, false, false, false, false, false, false, false, false]) 4 rfl (by kernel_rfl) (by kernel_rfl) (by kernel_rfl) rfl (fun _ _ _ h => h) (wn rfl) (fun W hW => r_field fld_30_2 rfl rfl) trivial (by kernel_rfl) ?_
      refine d_take (v := .pointer (some ⟨g2, 4, none⟩)) (listed' := #[false, true, false, false, true, true, false, false, false, false, false, false, false]) 5 rfl (by kernel_rfl) (by kernel_rfl) (by kernel_rfl) rfl (fun _ _ _ h => h) (wn rfl) (fun W hW => r_field fld_28_2 rfl rfl) trivial (by kernel_rfl) ?_
      refine d_three (la := #[true, true, false, false, true, true, false, false, false, false, false, false, false]) (lb := #[false, true, true, false, true, true, false, false, false, false, false, false, false]) (lc := #[false, true, false, false, true, true, true, false, false, false, false, false, false]) 0 2 6 rfl rfl rfl (by kernel_rfl) (wn rfl) (wn rfl) (wn rfl) (by kernel_rfl) (by kernel_rfl) (by kernel_rfl) ?_ ?_ ?_
      · skip
        refine e_new (vf := fun g => .slice (some ⟨g, 0, none⟩) 0 0) (ob := .cells #[] 3) rfl S397 (r_buildSlice (ps := []) rfl (by kernel_rfl)) ?_
        intro g399 w400 hg399 S401 B402
        refine ⟨trivial, ?_⟩
        refine d_two (listed' := #[true, true, true, false, true, true, false, false, false, false, false, false, false]) (listed'' := #[true, true, false, false, true, true, true, false, false, false, false, false, false]) 2 6 rfl rfl (by kernel_rfl) (wn rfl) (wn rfl) (by kernel_rfl) (by kernel_rfl) ?_ ?_
        · skip
          refine e_val (v := .slice A7 l7.length c7) rfl (r_load1 sz_24 rfl (S401.cell 2 rfl rfl)) ?_
          refine ⟨trivial, ?_⟩
          refine d_two (listed' := #[true, true, true, true, true, true, false, false, false, false, false, false, false]) (listed'' := #[true, true, true, false, true, true, true, false, false, false, false, false, false]) 3 6 rfl rfl (by kernel_rfl) (wn rfl) (wn rfl) (by kernel_rfl) (by kernel_rfl) ?_ ?_
          · skip
            have hC403 : Kd.C (Kd.int .i64) w400 A7 l7.length l7 := Kd.C_below HC7.out S401.ext.below
            obtain ⟨v403, w403, hr403, HRa403, E403⟩ := append_row (c := c7) 24 (empty_row (base := w.heap.size) (S401.blk 0 rfl) (S401.own _ (List.mem_of_getElem? (i := 0) rfl) rfl)) hC403 (by first | (simp; done) | (simp; omega)) (S401.ext.size)
            rw [List.nil_append] at HRa403
            obtain ⟨Aa, ca, rfl⟩ := Kd.R_slice HRa403
            refine e_val (v := .slice Aa l7.length ca) rfl (r_append rfl rfl hr403) ?_
            obtain ⟨S403, F403⟩ := St_app S401 E403
            have HRa := Aside0.mk HRa403
            refine ⟨trivial, ?_⟩
            refine d_one (listed' := #[true, true, true, true, true, true, true, false, false, false, false, false, false]) 6 rfl (by kernel_rfl) (wn rfl) (by kernel_rfl) ?_
            refine e_val (v := .agg #[.bool b0, .slice A5 l5.length c5]) rfl (r_loadN (vs := [.bool b0, .slice A5 l5.length c5]) sz_26 rfl (S403.blk 1 rfl) rfl rfl) ?_
            refine ⟨trivial, ?_⟩
            refine d_take (v := .pointer (some ⟨g2, 7, none⟩)) (listed' := #[true, true, true, true, true, true, true, false, true, false, false, false, false]) 8 rfl (by kernel_rfl) (by kernel_rfl) (by kernel_rfl) rfl (fun _ _ _ h => h) (wn rfl) (fun W hW => r_field fld_30_3 rfl rfl) trivial (by kernel_rfl) ?_
            refine d_one (listed' := #[true, true, true, true, true, true, true, true, true, false, false, false, false]) 7 rfl (by kernel_rfl) (wn rfl) (by kernel_rfl) ?_
            refine e_call (args := [.agg #[.bool b0, .slice A5 l5.length c5]]) Try.func38 (by kernel_rfl) rfl rfl ?_
            have hC5 := Kd.C_below HC5.out S403.ext.below
            refine (Own_at b0 A5 c5 l5 l5.length rfl _ hC5 (by omega) (by omega)).mono ?_
            rintro e w404 ⟨v, rfl, ho, hb⟩
            obtain ⟨Ab, cb, rfl⟩ := Kd.R_slice ho
            refine ⟨_, rfl, ?_⟩
            have B405 := hb
            have S406 := S403.call B405
            have HRan := Aside0.mk (R_below HRa.out B405)
            clear HRa
            have HRa := HRan
            clear HRan
            have HRb := Aside0.mk ho
            clear ho
            have HBo := S403.ext.size
            refine ⟨trivial, ?_⟩
            refine d_one (listed' := #[true, true, true, true, true, true, true, true, true, true, false, false, false]) 9 rfl (by kernel_rfl) (wn rfl) (by kernel_rfl) ?_
            refine e_store (vs := [.slice Aa l7.length ca]) (cs' := [.int .i64 kd, .int .i64 fd, .int .i64 s0, .int .u32 s1, .bool b0, .slice A5 l5.length c5, .int .i64 s3, .slice Aa l7.length ca]) (σ' := [⟨g6, true, .cells #[.int .i64 0, .int .i64 0, .int .i64 0, .int .u32 0, .bool false, .slice none 0 0, .int .i64 0, .slice none 0 0] 30 (0, 0)⟩, ⟨g2, true, .cells #[.int .i64 kd, .int .i64 fd, .int .i64 s0, .int .u32 s1, .bool b0, .slice A5 l5.length c5, .int .i64 s3, .slice Aa l7.length ca] 30 (0, 0)⟩]) S406 rfl rfl rfl rfl sz_24 1 rfl (.inl rfl) rfl rfl rfl ?_
            intro w407 S408 E409
            have HRan := Aside0.mk (R_ext HRa.out E409 (S406.blk 1 rfl) (by decide))
            clear HRa
            have HRa := HRan
            clear HRan
            have HRbn := Aside0.mk (R_ext HRb.out E409 (S406.blk 1 rfl) (by decide))
            clear HRb
            have HRb := HRbn
            clear HRbn
            refine ⟨trivial, ?_⟩
            refine d_take (v := .pointer (some ⟨g2, 2, none⟩)) (listed' := #[true, true, true, true, true, true, true, true, true, true, true, false, false]) 10 rfl (by kernel_rfl) (by kernel_rfl) (by kernel_rfl) rfl (fun _ _ _ h => h) (wn rfl) (fun W hW => r_field fld_30_2 rfl rfl) trivial (by kernel_rfl) ?_
            refine d_take (v := .pointer (some ⟨g2, 4, none⟩)) (listed' := #[true, true, true, true, true, true, true, true, true, true, true, true, false]) 11 rfl (by kernel_rfl) (by kernel_rfl) (by kernel_rfl) rfl (fun _ _ _ h => h) (wn rfl) (fun W hW => r_field fld_28_2 rfl rfl) trivial (by kernel_rfl) ?_
            refine d_one (listed' := #[true, true, true, true, true, true, true, true, true, true, true, true, true]) 12 rfl (by kernel_rfl) (wn rfl) (by kernel_rfl) ?_
            refine e_store (vs := [.bool b0, .slice Ab l5.length cb]) (cs' := [.int .i64 kd, .int .i64 fd, .int .i64 s0, .int .u32 s1, .bool b0, .slice Ab l5.length cb, .int .i64 s3, .slice Aa l7.length ca]) (σ' := [⟨g6, true, .cells #[.int .i64 0, .int .i64 0, .int .i64 0, .int .u32 0, .bool false, .slice none 0 0, .int .i64 0, .slice none 0 0] 30 (0, 0)⟩, ⟨g2, true, .cells #[.int .i64 kd, .int .i64 fd, .int .i64 s0, .int .u32 s1, .bool b0, .slice Ab l5.length cb, .int .i64 s3, .slice Aa l7.length ca] 30 (0, 0)⟩]) S408 rfl rfl rfl rfl sz_26 1 rfl (.inl rfl) rfl rfl rfl ?_
            intro w410 S411 E412
            have HRan := Aside0.mk (R_ext HRa.out E412 (S408.blk 1 rfl) (by decide))
            clear HRa
            have HRa := HRan
            clear HRan
            have HRbn := Aside0.mk (R_ext HRb.out E412 (S408.blk 1 rfl) (by decide))
            clear HRb
            have HRb := HRbn
            clear HRbn
            refine ⟨trivial, ?_⟩
            refine d_done (by kernel_rfl) ?_
            refine x_seq ?_
            refine s_seq ?_
            refine s_region ?_
            refine q_val (v := .agg #[.int .i64 kd, .int .i64 fd, .int .i64 s0, .int .u32 s1, .bool b0, .slice Ab l5.length cb, .int .i64 s3, .slice Aa l7.length ca]) (wn rfl) rfl (r_loadN (vs := [.int .i64 kd, .int .i64 fd, .int .i64 s0, .int .u32 s1, .bool b0, .slice Ab l5.length cb, .int .i64 s3, .slice Aa l7.length ca]) sz_30 rfl (S411.blk 1 rfl) rfl rfl) ?_
            refine q_of (wn rfl) ?_
            refine e_store (vs := [.int .i64 kd, .int .i64 fd, .int .i64 s0, .int .u32 s1, .bool b0, .slice Ab l5.length cb, .int .i64 s3, .slice Aa l7.length ca]) (cs' := [.int .i64 kd, .int .i64 fd, .int .i64 s0, .int .u32 s1, .bool b0, .slice Ab l5.length cb, .int .i64 s3, .slice Aa l7.length ca]) (σ' := [⟨g6, true, .cells #[.int .i64 kd, .int .i64 fd, .int .i64 s0, .int .u32 s1, .bool b0, .slice Ab l5.length cb, .int .i64 s3, .slice Aa l7.length ca] 30 (0, 0)⟩, ⟨g2, true, .cells #[.int .i64 kd, .int .i64 fd, .int .i64 s0, .int .u32 s1, .bool b0, .slice Ab l5.length cb, .int .i64 s3, .slice Aa l7.length ca] 30 (0, 0)⟩]) S411 rfl rfl rfl rfl sz_30 0 rfl (.inl rfl) rfl rfl rfl ?_
            intro w413 S414 E415
            have HRan := Aside0.mk (R_ext HRa.out E415 (S411.blk 0 rfl) (by decide))
            clear HRa
            have HRa := HRan
            clear HRan
            have HRbn := Aside0.mk (R_ext HRb.out E415 (S411.blk 0 rfl) (by decide))
            clear HRb
            have HRb := HRbn
            clear HRbn
            refine q_nil ?_
            refine x_seq ?_
            refine s_ret ?_
            refine t_retc (cs := [.int .i64 kd, .int .i64 fd, .int .i64 s0, .int .u32 s1, .bool b0, .slice Ab l5.length cb, .int .i64 s3, .slice Aa l7.length ca])  rfl rfl (S414.blk 0 rfl) sz_30 ?_
            have el7 : cut50 l7 = l7 := by unfold cut50; first | rw [if_pos (by omega)] | rw [if_neg (by omega)]
            have el5 : cut50 l5 = l5 := by unfold cut50; first | rw [if_pos (by omega)] | rw [if_neg (by omega)]
            rw [el7, el5]
            exact ⟨_, _, rfl, Kd.R_lower HRb.out HBo, HRa.out, S414.ext.below⟩
          · skip
            refine e_val (v := .agg #[.bool b0, .slice A5 l5.length c5]) rfl (r_loadN (vs := [.bool b0, .slice A5 l5.length c5]) sz_26 rfl (S401.blk 2 rfl) rfl rfl) ?_
            refine ⟨trivial, ?_⟩
            refine d_one (listed' := #[true, true, true, true, true, true, true, false, false, false, false, false, false]) 3 rfl (by kernel_rfl) (wn rfl) (by kernel_rfl) ?_
            have hC416 : Kd.C (Kd.int .i64) w400 A7 l7.length l7 := Kd.C_below HC7.out S401.ext.below
            obtain ⟨v416, w416, hr416, HRa416, E416⟩ := append_row (c := c7) 24 (empty_row (base := w.heap.size) (S401.blk 0 rfl) (S401.own _ (List.mem_of_getElem? (i := 0) rfl) rfl)) hC416 (by first | (simp; done) | (simp; omega)) (S401.ext.size)
            rw [List.nil_append] at HRa416
            obtain ⟨Aa, ca, rfl⟩ := Kd.R_slice HRa416
            refine e_val (v := .slice Aa l7.length ca) rfl (r_append rfl rfl hr416) ?_
            obtain ⟨S416, F416⟩ := St_app S401 E416
            have HRa := Aside0.mk HRa416
            refine ⟨trivial, ?_⟩
            refine d_take (v := .pointer (some ⟨g2, 7, none⟩)) (listed' := #[true, true, true, true, true, true, true, false, true, false, false, false, false]) 8 rfl (by kernel_rfl) (by kernel_rfl) (by kernel_rfl) rfl (fun _ _ _ h => h) (wn rfl) (fun W hW => r_field fld_30_3 rfl rfl) trivial (by kernel_rfl) ?_
            refine d_one (listed' := #[true, true, true, true, true, true, true, true, true, false, false, false, false]) 7 rfl (by kernel_rfl) (wn rfl) (by kernel_rfl) ?_
            refine e_call (args := [.agg #[.bool b0, .slice A5 l5.length c5]]) Try.func38 (by kernel_rfl) rfl rfl ?_
            have hC5 := Kd.C_below HC5.out S416.ext.below
            refine (Own_at b0 A5 c5 l5 l5.length rfl _ hC5 (by omega) (by omega)).mono ?_
            rintro e w417 ⟨v, rfl, ho, hb⟩
            obtain ⟨Ab, cb, rfl⟩ := Kd.R_slice ho
            refine ⟨_, rfl, ?_⟩
            have B418 := hb
            have S419 := S416.call B418
            have HRan := Aside0.mk (R_below HRa.out B418)
            clear HRa
            have HRa := HRan
            clear HRan
            have HRb := Aside0.mk ho
            clear ho
            have HBo := S416.ext.size
            refine ⟨trivial, ?_⟩
            refine d_one (listed' := #[true, true, true, true, true, true, true, true, true, true, false, false, false]) 9 rfl (by kernel_rfl) (wn rfl) (by kernel_rfl) ?_
            refine e_store (vs := [.slice Aa l7.length ca]) (cs' := [.int .i64 kd, .int .i64 fd, .int .i64 s0, .int .u32 s1, .bool b0, .slice A5 l5.length c5, .int .i64 s3, .slice Aa l7.length ca]) (σ' := [⟨g6, true, .cells #[.int .i64 0, .int .i64 0, .int .i64 0, .int .u32 0, .bool false, .slice none 0 0, .int .i64 0, .slice none 0 0] 30 (0, 0)⟩, ⟨g2, true, .cells #[.int .i64 kd, .int .i64 fd, .int .i64 s0, .int .u32 s1, .bool b0, .slice A5 l5.length c5, .int .i64 s3, .slice Aa l7.length ca] 30 (0, 0)⟩]) S419 rfl rfl rfl rfl sz_24 1 rfl (.inl rfl) rfl rfl rfl ?_
            intro w420 S421 E422
            have HRan := Aside0.mk (R_ext HRa.out E422 (S419.blk 1 rfl) (by decide))
            clear HRa
            have HRa := HRan
            clear HRan
            have HRbn := Aside0.mk (R_ext HRb.out E422 (S419.blk 1 rfl) (by decide))
            clear HRb
            have HRb := HRbn
            clear HRbn
            refine ⟨trivial, ?_⟩
            refine d_take (v := .pointer (some ⟨g2, 2, none⟩)) (listed' := #[true, true, true, true, true, true, true, true, true, true, true, false, false]) 10 rfl (by kernel_rfl) (by kernel_rfl) (by kernel_rfl) rfl (fun _ _ _ h => h) (wn rfl) (fun W hW => r_field fld_30_2 rfl rfl) trivial (by kernel_rfl) ?_
            refine d_take (v := .pointer (some ⟨g2, 4, none⟩)) (listed' := #[true, true, true, true, true, true, true, true, true, true, true, true, false]) 11 rfl (by kernel_rfl) (by kernel_rfl) (by kernel_rfl) rfl (fun _ _ _ h => h) (wn rfl) (fun W hW => r_field fld_28_2 rfl rfl) trivial (by kernel_rfl) ?_
            refine d_one (listed' := #[true, true, true, true, true, true, true, true, true, true, true, true, true]) 12 rfl (by kernel_rfl) (wn rfl) (by kernel_rfl) ?_
            refine e_store (vs := [.bool b0, .slice Ab l5.length cb]) (cs' := [.int .i64 kd, .int .i64 fd, .int .i64 s0, .int .u32 s1, .bool b0, .slice Ab l5.length cb, .int .i64 s3, .slice Aa l7.length ca]) (σ' := [⟨g6, true, .cells #[.int .i64 0, .int .i64 0, .int .i64 0, .int .u32 0, .bool false, .slice none 0 0, .int .i64 0, .slice none 0 0] 30 (0, 0)⟩, ⟨g2, true, .cells #[.int .i64 kd, .int .i64 fd, .int .i64 s0, .int .u32 s1, .bool b0, .slice Ab l5.length cb, .int .i64 s3, .slice Aa l7.length ca] 30 (0, 0)⟩]) S421 rfl rfl rfl rfl sz_26 1 rfl (.inl rfl) rfl rfl rfl ?_
            intro w423 S424 E425
            have HRan := Aside0.mk (R_ext HRa.out E425 (S421.blk 1 rfl) (by decide))
            clear HRa
            have HRa := HRan
            clear HRan
            have HRbn := Aside0.mk (R_ext HRb.out E425 (S421.blk 1 rfl) (by decide))
            clear HRb
            have HRb := HRbn
            clear HRbn
            refine ⟨trivial, ?_⟩
            refine d_done (by kernel_rfl) ?_
            refine x_seq ?_
            refine s_seq ?_
            refine s_region ?_
            refine q_val (v := .agg #[.int .i64 kd, .int .i64 fd, .int .i64 s0, .int .u32 s1, .bool b0, .slice Ab l5.length cb, .int .i64 s3, .slice Aa l7.length ca]) (wn rfl) rfl (r_loadN (vs := [.int .i64 kd, .int .i64 fd, .int .i64 s0, .int .u32 s1, .bool b0, .slice Ab l5.length cb, .int .i64 s3, .slice Aa l7.length ca]) sz_30 rfl (S424.blk 1 rfl) rfl rfl) ?_
            refine q_of (wn rfl) ?_
            refine e_store (vs := [.int .i64 kd, .int .i64 fd, .int .i64 s0, .int .u32 s1, .bool b0, .slice Ab l5.length cb, .int .i64 s3, .slice Aa l7.length ca]) (cs' := [.int .i64 kd, .int .i64 fd, .int .i64 s0, .int .u32 s1, .bool b0, .slice Ab l5.length cb, .int .i64 s3, .slice Aa l7.length ca]) (σ' := [⟨g6, true, .cells #[.int .i64 kd, .int .i64 fd, .int .i64 s0, .int .u32 s1, .bool b0, .slice Ab l5.length cb, .int .i64 s3, .slice Aa l7.length ca] 30 (0, 0)⟩, ⟨g2, true, .cells #[.int .i64 kd, .int .i64 fd, .int .i64 s0, .int .u32 s1, .bool b0, .slice Ab l5.length cb, .int .i64 s3, .slice Aa l7.length ca] 30 (0, 0)⟩]) S424 rfl rfl rfl rfl sz_30 0 rfl (.inl rfl) rfl rfl rfl ?_
            intro w426 S427 E428
            have HRan := Aside0.mk (R_ext HRa.out E428 (S424.blk 0 rfl) (by decide))
            clear HRa
            have HRa := HRan
            clear HRan
            have HRbn := Aside0.mk (R_ext HRb.out E428 (S424.blk 0 rfl) (by decide))
            clear HRb
            have HRb := HRbn
            clear HRbn
            refine q_nil ?_
            refine x_seq ?_
            refine s_ret ?_
            refine t_retc (cs := [.int .i64 kd, .int .i64 fd, .int .i64 s0, .int .u32 s1, .bool b0, .slice Ab l5.length cb, .int .i64 s3, .slice Aa l7.length ca])  rfl rfl (S427.blk 0 rfl) sz_30 ?_
            have el7 : cut50 l7 = l7 := by unfold cut50; first | rw [if_pos (by omega)] | rw [if_neg (by omega)]
            have el5 : cut50 l5 = l5 := by unfold cut50; first | rw [if_pos (by omega)] | rw [if_neg (by omega)]
            rw [el7, el5]
            exact ⟨_, _, rfl, Kd.R_lower HRb.out HBo, HRa.out, S427.ext.below⟩
        · skip
          refine e_val (v := .agg #[.bool b0, .slice A5 l5.length c5]) rfl (r_loadN (vs := [.bool b0, .slice A5 l5.length c5]) sz_26 rfl (S401.blk 2 rfl) rfl rfl) ?_
          refine ⟨trivial, ?_⟩
          refine d_one (listed' := #[true, true, true, false, true, true, true, false, false, false, false, false, false]) 2 rfl (by kernel_rfl) (wn rfl) (by kernel_rfl) ?_
          refine e_val (v := .slice A7 l7.length c7) rfl (r_load1 sz_24 rfl (S401.cell 2 rfl rfl)) ?_
          refine ⟨trivial, ?_⟩
          refine d_one (listed' := #[true, true, true, true, true, true, true, false, false, false, false, false, false]) 3 rfl (by kernel_rfl) (wn rfl) (by kernel_rfl) ?_
          have hC429 : Kd.C (Kd.int .i64) w400 A7 l7.length l7 := Kd.C_below HC7.out S401.ext.below
          obtain ⟨v429, w429, hr429, HRa429, E429⟩ := append_row (c := c7) 24 (empty_row (base := w.heap.size) (S401.blk 0 rfl) (S401.own _ (List.mem_of_getElem? (i := 0) rfl) rfl)) hC429 (by first | (simp; done) | (simp; omega)) (S401.ext.size)
          rw [List.nil_append] at HRa429
          obtain ⟨Aa, ca, rfl⟩ := Kd.R_slice HRa429
          refine e_val (v := .slice Aa l7.length ca) rfl (r_append rfl rfl hr429) ?_
          obtain ⟨S429, F429⟩ := St_app S401 E429
          have HRa := Aside0.mk HRa429
          refine ⟨trivial, ?_⟩
          refine d_take (v := .pointer (some ⟨g2, 7, none⟩)) (listed' := #[true, true, true, true, true, true, true, false, true, false, false, false, false]) 8 rfl (by kernel_rfl) (by kernel_rfl) (by kernel_rfl) rfl (fun _ _ _ h => h) (wn rfl) (fun W hW => r_field fld_30_3 rfl rfl) trivial (by kernel_rfl) ?_
          refine d_one (listed' := #[true, true, true, true, true, true, true, true, true, false, false, false, false]) 7 rfl (by kernel_rfl) (wn rfl) (by kernel_rfl) ?_
          refine e_call (args := [.agg #[.bool b0, .slice A5 l5.length c5]]) Try.func38 (by kernel_rfl) rfl rfl ?_
          have hC5 := Kd.C_below HC5.out S429.ext.below
          refine (Own_at b0 A5 c5 l5 l5.length rfl _ hC5 (by omega) (by omega)).mono ?_
          rintro e w430 ⟨v, rfl, ho, hb⟩
          obtain ⟨Ab, cb, rfl⟩ := Kd.R_slice ho
          refine ⟨_, rfl, ?_⟩
          have B431 := hb
          have S432 := S429.call B431
          have HRan := Aside0.mk (R_below HRa.out B431)
          clear HRa
          have HRa := HRan
          clear HRan
          have HRb := Aside0.mk ho
          clear ho
          have HBo := S429.ext.size
          refine ⟨trivial, ?_⟩
          refine d_one (listed' := #[true, true, true, true, true, true, true, true, true, true, false, false, false]) 9 rfl (by kernel_rfl) (wn rfl) (by kernel_rfl) ?_
          refine e_store (vs := [.slice Aa l7.length ca]) (cs' := [.int .i64 kd, .int .i64 fd, .int .i64 s0, .int .u32 s1, .bool b0, .slice A5 l5.length c5, .int .i64 s3, .slice Aa l7.length ca]) (σ' := [⟨g6, true, .cells #[.int .i64 0, .int .i64 0, .int .i64 0, .int .u32 0, .bool false, .slice none 0 0, .int .i64 0, .slice none 0 0] 30 (0, 0)⟩, ⟨g2, true, .cells #[.int .i64 kd, .int .i64 fd, .int .i64 s0, .int .u32 s1, .bool b0, .slice A5 l5.length c5, .int .i64 s3, .slice Aa l7.length ca] 30 (0, 0)⟩]) S432 rfl rfl rfl rfl sz_24 1 rfl (.inl rfl) rfl rfl rfl ?_
          intro w433 S434 E435
          have HRan := Aside0.mk (R_ext HRa.out E435 (S432.blk 1 rfl) (by decide))
          clear HRa
          have HRa := HRan
          clear HRan
          have HRbn := Aside0.mk (R_ext HRb.out E435 (S432.blk 1 rfl) (by decide))
          clear HRb
          have HRb := HRbn
          clear HRbn
          refine ⟨trivial, ?_⟩
          refine d_take (v := .pointer (some ⟨g2, 2, none⟩)) (listed' := #[true, true, true, true, true, true, true, true, true, true, true, false, false]) 10 rfl (by kernel_rfl) (by kernel_rfl) (by kernel_rfl) rfl (fun _ _ _ h => h) (wn rfl) (fun W hW => r_field fld_30_2 rfl rfl) trivial (by kernel_rfl) ?_
          refine d_take (v := .pointer (some ⟨g2, 4, none⟩)) (listed' := #[true, true, true, true, true, true, true, true, true, true, true, true, false]) 11 rfl (by kernel_rfl) (by kernel_rfl) (by kernel_rfl) rfl (fun _ _ _ h => h) (wn rfl) (fun W hW => r_field fld_28_2 rfl rfl) trivial (by kernel_rfl) ?_
          refine d_one (listed' := #[true, true, true, true, true, true, true, true, true, true, true, true, true]) 12 rfl (by kernel_rfl) (wn rfl) (by kernel_rfl) ?_
          refine e_store (vs := [.bool b0, .slice Ab l5.length cb]) (cs' := [.int .i64 kd, .int .i64 fd, .int .i64 s0, .int .u32 s1, .bool b0, .slice Ab l5.length cb, .int .i64 s3, .slice Aa l7.length ca]) (σ' := [⟨g6, true, .cells #[.int .i64 0, .int .i64 0, .int .i64 0, .int .u32 0, .bool false, .slice none 0 0, .int .i64 0, .slice none 0 0] 30 (0, 0)⟩, ⟨g2, true, .cells #[.int .i64 kd, .int .i64 fd, .int .i64 s0, .int .u32 s1, .bool b0, .slice Ab l5.length cb, .int .i64 s3, .slice Aa l7.length ca] 30 (0, 0)⟩]) S434 rfl rfl rfl rfl sz_26 1 rfl (.inl rfl) rfl rfl rfl ?_
          intro w436 S437 E438
          have HRan := Aside0.mk (R_ext HRa.out E438 (S434.blk 1 rfl) (by decide))
          clear HRa
          have HRa := HRan
          clear HRan
          have HRbn := Aside0.mk (R_ext HRb.out E438 (S434.blk 1 rfl) (by decide))
          clear HRb
          have HRb := HRbn
          clear HRbn
          refine ⟨trivial, ?_⟩
          refine d_done (by kernel_rfl) ?_
          refine x_seq ?_
          refine s_seq ?_
          refine s_region ?_
          refine q_val (v := .agg #[.int .i64 kd, .int .i64 fd, .int .i64 s0, .int .u32 s1, .bool b0, .slice Ab l5.length cb, .int .i64 s3, .slice Aa l7.length ca]) (wn rfl) rfl (r_loadN (vs := [.int .i64 kd, .int .i64 fd, .int .i64 s0, .int .u32 s1, .bool b0, .slice Ab l5.length cb, .int .i64 s3, .slice Aa l7.length ca]) sz_30 rfl (S437.blk 1 rfl) rfl rfl) ?_
          refine q_of (wn rfl) ?_
          refine e_store (vs := [.int .i64 kd, .int .i64 fd, .int .i64 s0, .int .u32 s1, .bool b0, .slice Ab l5.length cb, .int .i64 s3, .slice Aa l7.length ca]) (cs' := [.int .i64 kd, .int .i64 fd, .int .i64 s0, .int .u32 s1, .bool b0, .slice Ab l5.length cb, .int .i64 s3, .slice Aa l7.length ca]) (σ' := [⟨g6, true, .cells #[.int .i64 kd, .int .i64 fd, .int .i64 s0, .int .u32 s1, .bool b0, .slice Ab l5.length cb, .int .i64 s3, .slice Aa l7.length ca] 30 (0, 0)⟩, ⟨g2, true, .cells #[.int .i64 kd, .int .i64 fd, .int .i64 s0, .int .u32 s1, .bool b0, .slice Ab l5.length cb, .int .i64 s3, .slice Aa l7.length ca] 30 (0, 0)⟩]) S437 rfl rfl rfl rfl sz_30 0 rfl (.inl rfl) rfl rfl rfl ?_
          intro w439 S440 E441
          have HRan := Aside0.mk (R_ext HRa.out E441 (S437.blk 0 rfl) (by decide))
          clear HRa
          have HRa := HRan
          clear HRan
          have HRbn := Aside0.mk (R_ext HRb.out E441 (S437.blk 0 rfl) (by decide))
          clear HRb
          have HRb := HRbn
          clear HRbn
          refine q_nil ?_
          refine x_seq ?_
          refine s_ret ?_
          refine t_retc (cs := [.int .i64 kd, .int .i64 fd, .int .i64 s0, .int .u32 s1, .bool b0, .slice Ab l5.length cb, .int .i64 s3, .slice Aa l7.length ca])  rfl rfl (S440.blk 0 rfl) sz_30 ?_
          have el7 : cut50 l7 = l7 := by unfold cut50; first | rw [if_pos (by omega)] | rw [if_neg (by omega)]
          have el5 : cut50 l5 = l5 := by unfold cut50; first | rw [if_pos (by omega)] | rw [if_neg (by omega)]
          rw [el7, el5]
          exact ⟨_, _, rfl, Kd.R_lower HRb.out HBo, HRa.out, S440.ext.below⟩
      · skip
        refine e_val (v := .slice A7 l7.length c7) rfl (r_load1 sz_24 rfl (S397.cell 1 rfl rfl)) ?_
        refine ⟨trivial, ?_⟩
        refine d_two (listed' := #[true, true, true, false, true, true, false, false, false, false, false, false, false]) (listed'' := #[false, true, true, false, true, true, true, false, false, false, false, false, false]) 0 6 rfl rfl (by kernel_rfl) (wn rfl) (wn rfl) (by kernel_rfl) (by kernel_rfl) ?_ ?_
        · skip
          refine e_new (vf := fun g => .slice (some ⟨g, 0, none⟩) 0 0) (ob := .cells #[] 3) rfl S397 (r_buildSlice (ps := []) rfl (by kernel_rfl)) ?_
          intro g442 w443 hg442 S444 B445
          refine ⟨trivial, ?_⟩
          refine d_two (listed' := #[true, true, true, true, true, true, false, false, false, false, false, false, false]) (listed'' := #[true, true, true, false, true, true, true, false, false, false, false, false, false]) 3 6 rfl rfl (by kernel_rfl) (wn rfl) (wn rfl) (by kernel_rfl) (by kernel_rfl) ?_ ?_
          · skip
            have hC446 : Kd.C (Kd.int .i64) w443 A7 l7.length l7 := Kd.C_below HC7.out S444.ext.below
            obtain ⟨v446, w446, hr446, HRa446, E446⟩ := append_row (c := c7) 24 (empty_row (base := w.heap.size) (S444.blk 0 rfl) (S444.own _ (List.mem_of_getElem? (i := 0) rfl) rfl)) hC446 (by first | (simp; done) | (simp; omega)) (S444.ext.size)
            rw [List.nil_append] at HRa446
            obtain ⟨Aa, ca, rfl⟩ := Kd.R_slice HRa446
            refine e_val (v := .slice Aa l7.length ca) rfl (r_append rfl rfl hr446) ?_
            obtain ⟨S446, F446⟩ := St_app S444 E446
            have HRa := Aside0.mk HRa446
            refine ⟨trivial, ?_⟩
            refine d_one (listed' := #[true, true, true, true, true, true, true, false, false, false, false, false, false]) 6 rfl (by kernel_rfl) (wn rfl) (by kernel_rfl) ?_
            refine e_val (v := .agg #[.bool b0, .slice A5 l5.length c5]) rfl (r_loadN (vs := [.bool b0, .slice A5 l5.length c5]) sz_26 rfl (S446.blk 1 rfl) rfl rfl) ?_
            refine ⟨trivial, ?_⟩
            refine d_take (v := .pointer (some ⟨g2, 7, none⟩)) (listed' := #[true, true, true, true, true, true, true, false, true, false, false, false, false]) 8 rfl (by kernel_rfl) (by kernel_rfl) (by kernel_rfl) rfl (fun _ _ _ h => h) (wn rfl) (fun W hW => r_field fld_30_3 rfl rfl) trivial (by kernel_rfl) ?_
            refine d_one (listed' := #[true, true, true, true, true, true, true, true, true, false, false, false, false]) 7 rfl (by kernel_rfl) (wn rfl) (by kernel_rfl) ?_
            refine e_call (args := [.agg #[.bool b0, .slice A5 l5.length c5]]) Try.func38 (by kernel_rfl) rfl rfl ?_
            have hC5 := Kd.C_below HC5.out S446.ext.below
            refine (Own_at b0 A5 c5 l5 l5.length rfl _ hC5 (by omega) (by omega)).mono ?_
            rintro e w447 ⟨v, rfl, ho, hb⟩
            obtain ⟨Ab, cb, rfl⟩ := Kd.R_slice ho
            refine ⟨_, rfl, ?_⟩
            have B448 := hb
            have S449 := S446.call B448
            have HRan := Aside0.mk (R_below HRa.out B448)
            clear HRa
            have HRa := HRan
            clear HRan
            have HRb := Aside0.mk ho
            clear ho
            have HBo := S446.ext.size
            refine ⟨trivial, ?_⟩
            refine d_one (listed' := #[true, true, true, true, true, true, true, true, true, true, false, false, false]) 9 rfl (by kernel_rfl) (wn rfl) (by kernel_rfl) ?_
            refine e_store (vs := [.slice Aa l7.length ca]) (cs' := [.int .i64 kd, .int .i64 fd, .int .i64 s0, .int .u32 s1, .bool b0, .slice A5 l5.length c5, .int .i64 s3, .slice Aa l7.length ca]) (σ' := [⟨g6, true, .cells #[.int .i64 0, .int .i64 0, .int .i64 0, .int .u32 0, .bool false, .slice none 0 0, .int .i64 0, .slice none 0 0] 30 (0, 0)⟩, ⟨g2, true, .cells #[.int .i64 kd, .int .i64 fd, .int .i64 s0, .int .u32 s1, .bool b0, .slice A5 l5.length c5, .int .i64 s3, .slice Aa l7.length ca] 30 (0, 0)⟩]) S449 rfl rfl rfl rfl sz_24 1 rfl (.inl rfl) rfl rfl rfl ?_
            intro w450 S451 E452
            have HRan := Aside0.mk (R_ext HRa.out E452 (S449.blk 1 rfl) (by decide))
            clear HRa
            have HRa := HRan
            clear HRan
            have HRbn := Aside0.mk (R_ext HRb.out E452 (S449.blk 1 rfl) (by decide))
            clear HRb
            have HRb := HRbn
            clear HRbn
            refine ⟨trivial, ?_⟩
            refine d_take (v := .pointer (some ⟨g2, 2, none⟩)) (listed' := #[true, true, true, true, true, true, true, true, true, true, true, false, false]) 10 rfl (by kernel_rfl) (by kernel_rfl) (by kernel_rfl) rfl (fun _ _ _ h => h) (wn rfl) (fun W hW => r_field fld_30_2 rfl rfl) trivial (by kernel_rfl) ?_
            refine d_take (v := .pointer (some ⟨g2, 4, none⟩)) (listed' := #[true, true, true, true, true, true, true, true, true, true, true, true, false]) 11 rfl (by kernel_rfl) (by kernel_rfl) (by kernel_rfl) rfl (fun _ _ _ h => h) (wn rfl) (fun W hW => r_field fld_28_2 rfl rfl) trivial (by kernel_rfl) ?_
            refine d_one (listed' := #[true, true, true, true, true, true, true, true, true, true, true, true, true]) 12 rfl (by kernel_rfl) (wn rfl) (by kernel_rfl) ?_
            refine e_store (vs := [.bool b0, .slice Ab l5.length cb]) (cs' := [.int .i64 kd, .int .i64 fd, .int .i64 s0, .int .u32 s1, .bool b0, .slice Ab l5.length cb, .int .i64 s3, .slice Aa l7.length ca]) (σ' := [⟨g6, true, .cells #[.int .i64 0, .int .i64 0, .int .i64 0, .int .u32 0, .bool false, .slice none 0 0, .int .i64 0, .slice none 0 0] 30 (0, 0)⟩, ⟨g2, true, .cells #[.int .i64 kd, .int .i64 fd, .int .i64 s0, .int .u32 s1, .bool b0, .slice Ab l5.length cb, .int .i64 s3, .slice Aa l7.length ca] 30 (0, 0)⟩]) S451 rfl rfl rfl rfl sz_26 1 rfl (.inl rfl) rfl rfl rfl ?_
            intro w453 S454 E455
            have HRan := Aside0.mk (R_ext HRa.out E455 (S451.blk 1 rfl) (by decide))
            clear HRa
            have HRa := HRan
            clear HRan
            have HRbn := Aside0.mk (R_ext HRb.out E455 (S451.blk 1 rfl) (by decide))
            clear HRb
            have HRb := HRbn
            clear HRbn
            refine ⟨trivial, ?_⟩
            refine d_done (by kernel_rfl) ?_
            refine x_seq ?_
            refine s_seq ?_
            refine s_region ?_
            refine q_val (v := .agg #[.int .i64 kd, .int .i64 fd, .int .i64 s0, .int .u32 s1, .bool b0, .slice Ab l5.length cb, .int .i64 s3, .slice Aa l7.length ca]) (wn rfl) rfl (r_loadN (vs := [.int .i64 kd, .int .i64 fd, .int .i64 s0, .int .u32 s1, .bool b0, .slice Ab l5.length cb, .int .i64 s3, .slice Aa l7.length ca]) sz_30 rfl (S454.blk 1 rfl) rfl rfl) ?_
            refine q_of (wn rfl) ?_
            refine e_store (vs := [.int .i64 kd, .int .i64 fd, .int .i64 s0, .int .u32 s1, .bool b0, .slice Ab l5.length cb, .int .i64 s3, .slice Aa l7.length ca]) (cs' := [.int .i64 kd, .int .i64 fd, .int .i64 s0, .int .u32 s1, .bool b0, .slice Ab l5.length cb, .int .i64 s3, .slice Aa l7.length ca]) (σ' := [⟨g6, true, .cells #[.int .i64 kd, .int .i64 fd, .int .i64 s0, .int .u32 s1, .bool b0, .slice Ab l5.length cb, .int .i64 s3, .slice Aa l7.length ca] 30 (0, 0)⟩, ⟨g2, true, .cells #[.int .i64 kd, .int .i64 fd, .int .i64 s0, .int .u32 s1, .bool b0, .slice Ab l5.length cb, .int .i64 s3, .slice Aa l7.length ca] 30 (0, 0)⟩]) S454 rfl rfl rfl rfl sz_30 0 rfl (.inl rfl) rfl rfl rfl ?_
            intro w456 S457 E458
            have HRan := Aside0.mk (R_ext HRa.out E458 (S454.blk 0 rfl) (by decide))
            clear HRa
            have HRa := HRan
            clear HRan
            have HRbn := Aside0.mk (R_ext HRb.out E458 (S454.blk 0 rfl) (by decide))
            clear HRb
            have HRb := HRbn
            clear HRbn
            refine q_nil ?_
            refine x_seq ?_
            refine s_ret ?_
            refine t_retc (cs := [.int .i64 kd, .int .i64 fd, .int .i64 s0, .int .u32 s1, .bool b0, .slice Ab l5.length cb, .int .i64 s3, .slice Aa l7.length ca])  rfl rfl (S457.blk 0 rfl) sz_30 ?_
            have el7 : cut50 l7 = l7 := by unfold cut50; first | rw [if_pos (by omega)] | rw [if_neg (by omega)]
            have el5 : cut50 l5 = l5 := by unfold cut50; first | rw [if_pos (by omega)] | rw [if_neg (by omega)]
            rw [el7, el5]
            exact ⟨_, _, rfl, Kd.R_lower HRb.out HBo, HRa.out, S457.ext.below⟩
          · skip
            refine e_val (v := .agg #[.bool b0, .slice A5 l5.length c5]) rfl (r_loadN (vs := [.bool b0, .slice A5 l5.length c5]) sz_26 rfl (S444.blk 2 rfl) rfl rfl) ?_
            refine ⟨trivial, ?_⟩
            refine d_one (listed' := #[true, true, true, true, true, true, true, false, false, false, false, false, false]) 3 rfl (by kernel_rfl) (wn rfl) (by kernel_rfl) ?_
            have hC459 : Kd.C (Kd.int .i64) w443 A7 l7.length l7 := Kd.C_below HC7.out S444.ext.below
            obtain ⟨v459, w459, hr459, HRa459, E459⟩ := append_row (c := c7) 24 (empty_row (base := w.heap.size) (S444.blk 0 rfl) (S444.own _ (List.mem_of_getElem? (i := 0) rfl) rfl)) hC459 (by first | (simp; done) | (simp; omega)) (S444.ext.size)
            rw [List.nil_append] at HRa459
            obtain ⟨Aa, ca, rfl⟩ := Kd.R_slice HRa459
            refine e_val (v := .slice Aa l7.length ca) rfl (r_append rfl rfl hr459) ?_
            obtain ⟨S459, F459⟩ := St_app S444 E459
            have HRa := Aside0.mk HRa459
            refine ⟨trivial, ?_⟩
            refine d_take (v := .pointer (some ⟨g2, 7, none⟩)) (listed' := #[true, true, true, true, true, true, true, false, true, false, false, false, false]) 8 rfl (by kernel_rfl) (by kernel_rfl) (by kernel_rfl) rfl (fun _ _ _ h => h) (wn rfl) (fun W hW => r_field fld_30_3 rfl rfl) trivial (by kernel_rfl) ?_
            refine d_one (listed' := #[true, true, true, true, true, true, true, true, true, false, false, false, false]) 7 rfl (by kernel_rfl) (wn rfl) (by kernel_rfl) ?_
            refine e_call (args := [.agg #[.bool b0, .slice A5 l5.length c5]]) Try.func38 (by kernel_rfl) rfl rfl ?_
            have hC5 := Kd.C_below HC5.out S459.ext.below
            refine (Own_at b0 A5 c5 l5 l5.length rfl _ hC5 (by omega) (by omega)).mono ?_
            rintro e w460 ⟨v, rfl, ho, hb⟩
            obtain ⟨Ab, cb, rfl⟩ := Kd.R_slice ho
            refine ⟨_, rfl, ?_⟩
            have B461 := hb
            have S462 := S459.call B461
            have HRan := Aside0.mk (R_below HRa.out B461)
            clear HRa
            have HRa := HRan
            clear HRan
            have HRb := Aside0.mk ho
            clear ho
            have HBo := S459.ext.size
            refine ⟨trivial, ?_⟩
            refine d_one (listed' := #[true, true, true, true, true, true, true, true, true, true, false, false, false]) 9 rfl (by kernel_rfl) (wn rfl) (by kernel_rfl) ?_
            refine e_store (vs := [.slice Aa l7.length ca]) (cs' := [.int .i64 kd, .int .i64 fd, .int .i64 s0, .int .u32 s1, .bool b0, .slice A5 l5.length c5, .int .i64 s3, .slice Aa l7.length ca]) (σ' := [⟨g6, true, .cells #[.int .i64 0, .int .i64 0, .int .i64 0, .int .u32 0, .bool false, .slice none 0 0, .int .i64 0, .slice none 0 0] 30 (0, 0)⟩, ⟨g2, true, .cells #[.int .i64 kd, .int .i64 fd, .int .i64 s0, .int .u32 s1, .bool b0, .slice A5 l5.length c5, .int .i64 s3, .slice Aa l7.length ca] 30 (0, 0)⟩]) S462 rfl rfl rfl rfl sz_24 1 rfl (.inl rfl) rfl rfl rfl ?_
            intro w463 S464 E465
            have HRan := Aside0.mk (R_ext HRa.out E465 (S462.blk 1 rfl) (by decide))
            clear HRa
            have HRa := HRan
            clear HRan
            have HRbn := Aside0.mk (R_ext HRb.out E465 (S462.blk 1 rfl) (by decide))
            clear HRb
            have HRb := HRbn
            clear HRbn
            refine ⟨trivial, ?_⟩
            refine d_take (v := .pointer (some ⟨g2, 2, none⟩)) (listed' := #[true, true, true, true, true, true, true, true, true, true, true, false, false]) 10 rfl (by kernel_rfl) (by kernel_rfl) (by kernel_rfl) rfl (fun _ _ _ h => h) (wn rfl) (fun W hW => r_field fld_30_2 rfl rfl) trivial (by kernel_rfl) ?_
            refine d_take (v := .pointer (some ⟨g2, 4, none⟩)) (listed' := #[true, true, true, true, true, true, true, true, true, true, true, true, false]) 11 rfl (by kernel_rfl) (by kernel_rfl) (by kernel_rfl) rfl (fun _ _ _ h => h) (wn rfl) (fun W hW => r_field fld_28_2 rfl rfl) trivial (by kernel_rfl) ?_
            refine d_one (listed' := #[true, true, true, true, true, true, true, true, true, true, true, true, true]) 12 rfl (by kernel_rfl) (wn rfl) (by kernel_rfl) ?_
            refine e_store (vs := [.bool b0, .slice Ab l5.length cb]) (cs' := [.int .i64 kd, .int .i64 fd, .int .i64 s0, .int .u32 s1, .bool b0, .slice Ab l5.length cb, .int .i64 s3, .slice Aa l7.length ca]) (σ' := [⟨g6, true, .cells #[.int .i64 0, .int .i64 0, .int .i64 0, .int .u32 0, .bool false, .slice none 0 0, .int .i64 0, .slice none 0 0] 30 (0, 0)⟩, ⟨g2, true, .cells #[.int .i64 kd, .int .i64 fd, .int .i64 s0, .int .u32 s1, .bool b0, .slice Ab l5.length cb, .int .i64 s3, .slice Aa l7.length ca] 30 (0, 0)⟩]) S464 rfl rfl rfl rfl sz_26 1 rfl (.inl rfl) rfl rfl rfl ?_
            intro w466 S467 E468
            have HRan := Aside0.mk (R_ext HRa.out E468 (S464.blk 1 rfl) (by decide))
            clear HRa
            have HRa := HRan
            clear HRan
            have HRbn := Aside0.mk (R_ext HRb.out E468 (S464.blk 1 rfl) (by decide))
            clear HRb
            have HRb := HRbn
            clear HRbn
            refine ⟨trivial, ?_⟩
            refine d_done (by kernel_rfl) ?_
            refine x_seq ?_
            refine s_seq ?_
            refine s_region ?_
            refine q_val (v := .agg #[.int .i64 kd, .int .i64 fd, .int .i64 s0, .int .u32 s1, .bool b0, .slice Ab l5.length cb, .int .i64 s3, .slice Aa l7.length ca]) (wn rfl) rfl (r_loadN (vs := [.int .i64 kd, .int .i64 fd, .int .i64 s0, .int .u32 s1, .bool b0, .slice Ab l5.length cb, .int .i64 s3, .slice Aa l7.length ca]) sz_30 rfl (S467.blk 1 rfl) rfl rfl) ?_
            refine q_of (wn rfl) ?_
            refine e_store (vs := [.int .i64 kd, .int .i64 fd, .int .i64 s0, .int .u32 s1, .bool b0, .slice Ab l5.length cb, .int .i64 s3, .slice Aa l7.length ca]) (cs' := [.int .i64 kd, .int .i64 fd, .int .i64 s0, .int .u32 s1, .bool b0, .slice Ab l5.length cb, .int .i64 s3, .slice Aa l7.length ca]) (σ' := [⟨g6, true, .cells #[.int .i64 kd, .int .i64 fd, .int .i64 s0, .int .u32 s1, .bool b0, .slice Ab l5.length cb, .int .i64 s3, .slice Aa l7.length ca] 30 (0, 0)⟩, ⟨g2, true, .cells #[.int .i64 kd, .int .i64 fd, .int .i64 s0, .int .u32 s1, .bool b0, .slice Ab l5.length cb, .int .i64 s3, .slice Aa l7.length ca] 30 (0, 0)⟩]) S467 rfl rfl rfl rfl sz_30 0 rfl (.inl rfl) rfl rfl rfl ?_
            intro w469 S470 E471
            have HRan := Aside0.mk (R_ext HRa.out E471 (S467.blk 0 rfl) (by decide))
            clear HRa
            have HRa := HRan
            clear HRan
            have HRbn := Aside0.mk (R_ext HRb.out E471 (S467.blk 0 rfl) (by decide))
            clear HRb
            have HRb := HRbn
            clear HRbn
            refine q_nil ?_
            refine x_seq ?_
            refine s_ret ?_
            refine t_retc (cs := [.int .i64 kd, .int .i64 fd, .int .i64 s0, .int .u32 s1, .bool b0, .slice Ab l5.length cb, .int .i64 s3, .slice Aa l7.length ca])  rfl rfl (S470.blk 0 rfl) sz_30 ?_
            have el7 : cut50 l7 = l7 := by unfold cut50; first | rw [if_pos (by omega)] | rw [if_neg (by omega)]
            have el5 : cut50 l5 = l5 := by unfold cut50; first | rw [if_pos (by omega)] | rw [if_neg (by omega)]
            rw [el7, el5]
            exact ⟨_, _, rfl, Kd.R_lower HRb.out HBo, HRa.out, S470.ext.below⟩
        · skip
          refine e_val (v := .agg #[.bool b0, .slice A5 l5.length c5]) rfl (r_loadN (vs := [.bool b0, .slice A5 l5.length c5]) sz_26 rfl (S397.blk 1 rfl) rfl rfl) ?_
          refine ⟨trivial, ?_⟩
          refine d_one (listed' := #[true, true, true, false, true, true, true, false, false, false, false, false, false]) 0 rfl (by kernel_rfl) (wn rfl) (by kernel_rfl) ?_
          refine e_new (vf := fun g => .slice (some ⟨g, 0, none⟩) 0 0) (ob := .cells #[] 3) rfl S397 (r_buildSlice (ps := []) rfl (by kernel_rfl)) ?_
          intro g472 w473 hg472 S474 B475
          refine ⟨trivial, ?_⟩
          refine d_one (listed' := #[true, true, true, true, true, true, true, false, false, false, false, false, false]) 3 rfl (by kernel_rfl) (wn rfl) (by kernel_rfl) ?_
          have hC476 : Kd.C (Kd.int .i64) w473 A7 l7.length l7 := Kd.C_below HC7.out S474.ext.below
          obtain ⟨v476, w476, hr476, HRa476, E476⟩ := append_row (c := c7) 24 (empty_row (base := w.heap.size) (S474.blk 0 rfl) (S474.own _ (List.mem_of_getElem? (i := 0) rfl) rfl)) hC476 (by first | (simp; done) | (simp; omega)) (S474.ext.size)
          rw [List.nil_append] at HRa476
          obtain ⟨Aa, ca, rfl⟩ := Kd.R_slice HRa476
          refine e_val (v := .slice Aa l7.length ca) rfl (r_append rfl rfl hr476) ?_
          obtain ⟨S476, F476⟩ := St_app S474 E476
          have HRa := Aside0.mk HRa476
          refine ⟨trivial, ?_⟩
          refine d_take (v := .pointer (some ⟨g2, 7, none⟩)) (listed' := #[true, true, true, true, true, true, true, false, true, false, false, false, false]) 8 rfl (by kernel_rfl) (by kernel_rfl) (by kernel_rfl) rfl (fun _ _ _ h => h) (wn rfl) (fun W hW => r_field fld_30_3 rfl rfl) trivial (by kernel_rfl) ?_
          refine d_one (listed' := #[true, true, true, true, true, true, true, true, true, false, false, false, false]) 7 rfl (by kernel_rfl) (wn rfl) (by kernel_rfl) ?_
          refine e_call (args := [.agg #[.bool b0, .slice A5 l5.length c5]]) Try.func38 (by kernel_rfl) rfl rfl ?_
          have hC5 := Kd.C_below HC5.out S476.ext.below
          refine (Own_at b0 A5 c5 l5 l5.length rfl _ hC5 (by omega) (by omega)).mono ?_
          rintro e w477 ⟨v, rfl, ho, hb⟩
          obtain ⟨Ab, cb, rfl⟩ := Kd.R_slice ho
          refine ⟨_, rfl, ?_⟩
          have B478 := hb
          have S479 := S476.call B478
          have HRan := Aside0.mk (R_below HRa.out B478)
          clear HRa
          have HRa := HRan
          clear HRan
          have HRb := Aside0.mk ho
          clear ho
          have HBo := S476.ext.size
          refine ⟨trivial, ?_⟩
          refine d_one (listed' := #[true, true, true, true, true, true, true, true, true, true, false, false, false]) 9 rfl (by kernel_rfl) (wn rfl) (by kernel_rfl) ?_
          refine e_store (vs := [.slice Aa l7.length ca]) (cs' := [.int .i64 kd, .int .i64 fd, .int .i64 s0, .int .u32 s1, .bool b0, .slice A5 l5.length c5, .int .i64 s3, .slice Aa l7.length ca]) (σ' := [⟨g6, true, .cells #[.int .i64 0, .int .i64 0, .int .i64 0, .int .u32 0, .bool false, .slice none 0 0, .int .i64 0, .slice none 0 0] 30 (0, 0)⟩, ⟨g2, true, .cells #[.int .i64 kd, .int .i64 fd, .int .i64 s0, .int .u32 s1, .bool b0, .slice A5 l5.length c5, .int .i64 s3, .slice Aa l7.length ca] 30 (0, 0)⟩]) S479 rfl rfl rfl rfl sz_24 1 rfl (.inl rfl) rfl rfl rfl ?_
          intro w480 S481 E482
          have HRan := Aside0.mk (R_ext HRa.out E482 (S479.blk 1 rfl) (by decide))
          clear HRa
          have HRa := HRan
          clear HRan
          have HRbn := Aside0.mk (R_ext HRb.out E482 (S479.blk 1 rfl) (by decide))
          clear HRb
          have HRb := HRbn
          clear HRbn
          refine ⟨trivial, ?_⟩
          refine d_take (v := .pointer (some ⟨g2, 2, none⟩)) (listed' := #[true, true, true, true, true, true, true, true, true, true, true, false, false]) 10 rfl (by kernel_rfl) (by kernel_rfl) (by kernel_rfl) rfl (fun _ _ _ h => h) (wn rfl) (fun W hW => r_field fld_30_2 rfl rfl) trivial (by kernel_rfl) ?_
          refine d_take (v := .pointer (some ⟨g2, 4, none⟩)) (listed' := #[true, true, true, true, true, true, true, true, true, true, true, true, false]) 11 rfl (by kernel_rfl) (by kernel_rfl) (by kernel_rfl) rfl (fun _ _ _ h => h) (wn rfl) (fun W hW => r_field fld_28_2 rfl rfl) trivial (by kernel_rfl) ?_
          refine d_one (listed' := #[true, true, true, true, true, true, true, true, true, true, true, true, true]) 12 rfl (by kernel_rfl) (wn rfl) (by kernel_rfl) ?_
          refine e_store (vs := [.bool b0, .slice Ab l5.length cb]) (cs' := [.int .i64 kd, .int .i64 fd, .int .i64 s0, .int .u32 s1, .bool b0, .slice Ab l5.length cb, .int .i64 s3, .slice Aa l7.length ca]) (σ' := [⟨g6, true, .cells #[.int .i64 0, .int .i64 0, .int .i64 0, .int .u32 0, .bool false, .slice none 0 0, .int .i64 0, .slice none 0 0] 30 (0, 0)⟩, ⟨g2, true, .cells #[.int .i64 kd, .int .i64 fd, .int .i64 s0, .int .u32 s1, .bool b0, .slice Ab l5.length cb, .int .i64 s3, .slice Aa l7.length ca] 30 (0, 0)⟩]) S481 rfl rfl rfl rfl sz_26 1 rfl (.inl rfl) rfl rfl rfl ?_
          intro w483 S484 E485
          have HRan := Aside0.mk (R_ext HRa.out E485 (S481.blk 1 rfl) (by decide))
          clear HRa
          have HRa := HRan
          clear HRan
          have HRbn := Aside0.mk (R_ext HRb.out E485 (S481.blk 1 rfl) (by decide))
          clear HRb
          have HRb := HRbn
          clear HRbn
          refine ⟨trivial, ?_⟩
          refine d_done (by kernel_rfl) ?_
          refine x_seq ?_
          refine s_seq ?_
          refine s_region ?_
          refine q_val (v := .agg #[.int .i64 kd, .int .i64 fd, .int .i64 s0, .int .u32 s1, .bool b0, .slice Ab l5.length cb, .int .i64 s3, .slice Aa l7.length ca]) (wn rfl) rfl (r_loadN (vs := [.int .i64 kd, .int .i64 fd, .int .i64 s0, .int .u32 s1, .bool b0, .slice Ab l5.length cb, .int .i64 s3, .slice Aa l7.length ca]) sz_30 rfl (S484.blk 1 rfl) rfl rfl) ?_
          refine q_of (wn rfl) ?_
          refine e_store (vs := [.int .i64 kd, .int .i64 fd, .int .i64 s0, .int .u32 s1, .bool b0, .slice Ab l5.length cb, .int .i64 s3, .slice Aa l7.length ca]) (cs' := [.int .i64 kd, .int .i64 fd, .int .i64 s0, .int .u32 s1, .bool b0, .slice Ab l5.length cb, .int .i64 s3, .slice Aa l7.length ca]) (σ' := [⟨g6, true, .cells #[.int .i64 kd, .int .i64 fd, .int .i64 s0, .int .u32 s1, .bool b0, .slice Ab l5.length cb, .int .i64 s3, .slice Aa l7.length ca] 30 (0, 0)⟩, ⟨g2, true, .cells #[.int .i64 kd, .int .i64 fd, .int .i64 s0, .int .u32 s1, .bool b0, .slice Ab l5.length cb, .int .i64 s3, .slice Aa l7.length ca] 30 (0, 0)⟩]) S484 rfl rfl rfl rfl sz_30 0 rfl (.inl rfl) rfl rfl rfl ?_
          intro w486 S487 E488
          have HRan := Aside0.mk (R_ext HRa.out E488 (S484.blk 0 rfl) (by decide))
          clear HRa
          have HRa := HRan
          clear HRan
          have HRbn := Aside0.mk (R_ext HRb.out E488 (S484.blk 0 rfl) (by decide))
          clear HRb
          have HRb := HRbn
          clear HRbn
          refine q_nil ?_
          refine x_seq ?_
          refine s_ret ?_
          refine t_retc (cs := [.int .i64 kd, .int .i64 fd, .int .i64 s0, .int .u32 s1, .bool b0, .slice Ab l5.length cb, .int .i64 s3, .slice Aa l7.length ca])  rfl rfl (S487.blk 0 rfl) sz_30 ?_
          have el7 : cut50 l7 = l7 := by unfold cut50; first | rw [if_pos (by omega)] | rw [if_neg (by omega)]
          have el5 : cut50 l5 = l5 := by unfold cut50; first | rw [if_pos (by omega)] | rw [if_neg (by omega)]
          rw [el7, el5]
          exact ⟨_, _, rfl, Kd.R_lower HRb.out HBo, HRa.out, S487.ext.below⟩
      · skip
        refine e_val (v := .agg #[.bool b0, .slice A5 l5.length c5]) rfl (r_loadN (vs := [.bool b0, .slice A5 l5.length c5]) sz_26 rfl (S397.blk 1 rfl) rfl rfl) ?_
        refine ⟨trivial, ?_⟩
        refine d_two (listed' := #[true, true, false, false, true, true, true, false, false, false, false, false, false]) (listed'' := #[false, true, true, false, true, true, true, false, false, false, false, false, false]) 0 2 rfl rfl (by kernel_rfl) (wn rfl) (wn rfl) (by kernel_rfl) (by kernel_rfl) ?_ ?_
        · skip
          refine e_new (vf := fun g => .slice (some ⟨g, 0, none⟩) 0 0) (ob := .cells #[] 3) rfl S397 (r_buildSlice (ps := []) rfl (by kernel_rfl)) ?_
          intro g489 w490 hg489 S491 B492
          refine ⟨trivial, ?_⟩
          refine d_one (listed' := #[true, true, true, false, true, true, true, false, false, false, false, false, false]) 2 rfl (by kernel_rfl) (wn rfl) (by kernel_rfl) ?_
          refine e_val (v := .slice A7 l7.length c7) rfl (r_load1 sz_24 rfl (S491.cell 2 rfl rfl)) ?_
          refine ⟨trivial, ?_⟩
          refine d_one (listed' := #[true, true, true, true, true, true, true, false, false, false, false, false, false]) 3 rfl (by kernel_rfl) (wn rfl) (by kernel_rfl) ?_
          have hC493 : Kd.C (Kd.int .i64) w490 A7 l7.length l7 := Kd.C_below HC7.out S491.ext.below
          obtain ⟨v493, w493, hr493, HRa493, E493⟩ := append_row (c := c7) 24 (empty_row (base := w.heap.size) (S491.blk 0 rfl) (S491.own _ (List.mem_of_getElem? (i := 0) rfl) rfl)) hC493 (by first | (simp; done) | (simp; omega)) (S491.ext.size)
          rw [List.nil_append] at HRa493
          obtain ⟨Aa, ca, rfl⟩ := Kd.R_slice HRa493
          refine e_val (v := .slice Aa l7.length ca) rfl (r_append rfl rfl hr493) ?_
          obtain ⟨S493, F493⟩ := St_app S491 E493
          have HRa := Aside0.mk HRa493
          refine ⟨trivial, ?_⟩
          refine d_take (v := .pointer (some ⟨g2, 7, none⟩)) (listed' := #[true, true, true, true, true, true, true, false, true, false, false, false, false]) 8 rfl (by kernel_rfl) (by kernel_rfl) (by kernel_rfl) rfl (fun _ _ _ h => h) (wn rfl) (fun W hW => r_field fld_30_3 rfl rfl) trivial (by kernel_rfl) ?_
          refine d_one (listed' := #[true, true, true, true, true, true, true, true, true, false, false, false, false]) 7 rfl (by kernel_rfl) (wn rfl) (by kernel_rfl) ?_
          refine e_call (args := [.agg #[.bool b0, .slice A5 l5.length c5]]) Try.func38 (by kernel_rfl) rfl rfl ?_
          have hC5 := Kd.C_below HC5.out S493.ext.below
          refine (Own_at b0 A5 c5 l5 l5.length rfl _ hC5 (by omega) (by omega)).mono ?_
          rintro e w494 ⟨v, rfl, ho, hb⟩
          obtain ⟨Ab, cb, rfl⟩ := Kd.R_slice ho
          refine ⟨_, rfl, ?_⟩
          have B495 := hb
          have S496 := S493.call B495
          have HRan := Aside0.mk (R_below HRa.out B495)
          clear HRa
          have HRa := HRan
          clear HRan
          have HRb := Aside0.mk ho
          clear ho
          have HBo := S493.ext.size
          refine ⟨trivial, ?_⟩
          refine d_one (listed' := #[true, true, true, true, true, true, true, true, true, true, false, false, false]) 9 rfl (by kernel_rfl) (wn rfl) (by kernel_rfl) ?_
          refine e_store (vs := [.slice Aa l7.length ca]) (cs' := [.int .i64 kd, .int .i64 fd, .int .i64 s0, .int .u32 s1, .bool b0, .slice A5 l5.length c5, .int .i64 s3, .slice Aa l7.length ca]) (σ' := [⟨g6, true, .cells #[.int .i64 0, .int .i64 0, .int .i64 0, .int .u32 0, .bool false, .slice none 0 0, .int .i64 0, .slice none 0 0] 30 (0, 0)⟩, ⟨g2, true, .cells #[.int .i64 kd, .int .i64 fd, .int .i64 s0, .int .u32 s1, .bool b0, .slice A5 l5.length c5, .int .i64 s3, .slice Aa l7.length ca] 30 (0, 0)⟩]) S496 rfl rfl rfl rfl sz_24 1 rfl (.inl rfl) rfl rfl rfl ?_
          intro w497 S498 E499
          have HRan := Aside0.mk (R_ext HRa.out E499 (S496.blk 1 rfl) (by decide))
          clear HRa
          have HRa := HRan
          clear HRan
          have HRbn := Aside0.mk (R_ext HRb.out E499 (S496.blk 1 rfl) (by decide))
          clear HRb
          have HRb := HRbn
          clear HRbn
          refine ⟨trivial, ?_⟩
          refine d_take (v := .pointer (some ⟨g2, 2, none⟩)) (listed' := #[true, true, true, true, true, true, true, true, true, true, true, false, false]) 10 rfl (by kernel_rfl) (by kernel_rfl) (by kernel_rfl) rfl (fun _ _ _ h => h) (wn rfl) (fun W hW => r_field fld_30_2 rfl rfl) trivial (by kernel_rfl) ?_
          refine d_take (v := .pointer (some ⟨g2, 4, none⟩)) (listed' := #[true, true, true, true, true, true, true, true, true, true, true, true, false]) 11 rfl (by kernel_rfl) (by kernel_rfl) (by kernel_rfl) rfl (fun _ _ _ h => h) (wn rfl) (fun W hW => r_field fld_28_2 rfl rfl) trivial (by kernel_rfl) ?_
          refine d_one (listed' := #[true, true, true, true, true, true, true, true, true, true, true, true, true]) 12 rfl (by kernel_rfl) (wn rfl) (by kernel_rfl) ?_
          refine e_store (vs := [.bool b0, .slice Ab l5.length cb]) (cs' := [.int .i64 kd, .int .i64 fd, .int .i64 s0, .int .u32 s1, .bool b0, .slice Ab l5.length cb, .int .i64 s3, .slice Aa l7.length ca]) (σ' := [⟨g6, true, .cells #[.int .i64 0, .int .i64 0, .int .i64 0, .int .u32 0, .bool false, .slice none 0 0, .int .i64 0, .slice none 0 0] 30 (0, 0)⟩, ⟨g2, true, .cells #[.int .i64 kd, .int .i64 fd, .int .i64 s0, .int .u32 s1, .bool b0, .slice Ab l5.length cb, .int .i64 s3, .slice Aa l7.length ca] 30 (0, 0)⟩]) S498 rfl rfl rfl rfl sz_26 1 rfl (.inl rfl) rfl rfl rfl ?_
          intro w500 S501 E502
          have HRan := Aside0.mk (R_ext HRa.out E502 (S498.blk 1 rfl) (by decide))
          clear HRa
          have HRa := HRan
          clear HRan
          have HRbn := Aside0.mk (R_ext HRb.out E502 (S498.blk 1 rfl) (by decide))
          clear HRb
          have HRb := HRbn
          clear HRbn
          refine ⟨trivial, ?_⟩
          refine d_done (by kernel_rfl) ?_
          refine x_seq ?_
          refine s_seq ?_
          refine s_region ?_
          refine q_val (v := .agg #[.int .i64 kd, .int .i64 fd, .int .i64 s0, .int .u32 s1, .bool b0, .slice Ab l5.length cb, .int .i64 s3, .slice Aa l7.length ca]) (wn rfl) rfl (r_loadN (vs := [.int .i64 kd, .int .i64 fd, .int .i64 s0, .int .u32 s1, .bool b0, .slice Ab l5.length cb, .int .i64 s3, .slice Aa l7.length ca]) sz_30 rfl (S501.blk 1 rfl) rfl rfl) ?_
          refine q_of (wn rfl) ?_
          refine e_store (vs := [.int .i64 kd, .int .i64 fd, .int .i64 s0, .int .u32 s1, .bool b0, .slice Ab l5.length cb, .int .i64 s3, .slice Aa l7.length ca]) (cs' := [.int .i64 kd, .int .i64 fd, .int .i64 s0, .int .u32 s1, .bool b0, .slice Ab l5.length cb, .int .i64 s3, .slice Aa l7.length ca]) (σ' := [⟨g6, true, .cells #[.int .i64 kd, .int .i64 fd, .int .i64 s0, .int .u32 s1, .bool b0, .slice Ab l5.length cb, .int .i64 s3, .slice Aa l7.length ca] 30 (0, 0)⟩, ⟨g2, true, .cells #[.int .i64 kd, .int .i64 fd, .int .i64 s0, .int .u32 s1, .bool b0, .slice Ab l5.length cb, .int .i64 s3, .slice Aa l7.length ca] 30 (0, 0)⟩]) S501 rfl rfl rfl rfl sz_30 0 rfl (.inl rfl) rfl rfl rfl ?_
          intro w503 S504 E505
          have HRan := Aside0.mk (R_ext HRa.out E505 (S501.blk 0 rfl) (by decide))
          clear HRa
          have HRa := HRan
          clear HRan
          have HRbn := Aside0.mk (R_ext HRb.out E505 (S501.blk 0 rfl) (by decide))
          clear HRb
          have HRb := HRbn
          clear HRbn
          refine q_nil ?_
          refine x_seq ?_
          refine s_ret ?_
          refine t_retc (cs := [.int .i64 kd, .int .i64 fd, .int .i64 s0, .int .u32 s1, .bool b0, .slice Ab l5.length cb, .int .i64 s3, .slice Aa l7.length ca])  rfl rfl (S504.blk 0 rfl) sz_30 ?_
          have el7 : cut50 l7 = l7 := by unfold cut50; first | rw [if_pos (by omega)] | rw [if_neg (by omega)]
          have el5 : cut50 l5 = l5 := by unfold cut50; first | rw [if_pos (by omega)] | rw [if_neg (by omega)]
          rw [el7, el5]
          exact ⟨_, _, rfl, Kd.R_lower HRb.out HBo, HRa.out, S504.ext.below⟩
        · skip
          refine e_val (v := .slice A7 l7.length c7) rfl (r_load1 sz_24 rfl (S397.cell 1 rfl rfl)) ?_
          refine ⟨trivial, ?_⟩
          refine d_one (listed' := #[true, true, true, false, true, true, true, false, false, false, false, false, false]) 0 rfl (by kernel_rfl) (wn rfl) (by kernel_rfl) ?_
          refine e_new (vf := fun g => .slice (some ⟨g, 0, none⟩) 0 0) (ob := .cells #[] 3) rfl S397 (r_buildSlice (ps := []) rfl (by kernel_rfl)) ?_
          intro g506 w507 hg506 S508 B509
          refine ⟨trivial, ?_⟩
          refine d_one (listed' := #[true, true, true, true, true, true, true, false, false, false, false, false, false]) 3 rfl (by kernel_rfl) (wn rfl) (by kernel_rfl) ?_
          have hC510 : Kd.C (Kd.int .i64) w507 A7 l7.length l7 := Kd.C_below HC7.out S508.ext.below
          obtain ⟨v510, w510, hr510, HRa510, E510⟩ := append_row (c := c7) 24 (empty_row (base := w.heap.size) (S508.blk 0 rfl) (S508.own _ (List.mem_of_getElem? (i := 0) rfl) rfl)) hC510 (by first | (simp; done) | (simp; omega)) (S508.ext.size)
          rw [List.nil_append] at HRa510
          obtain ⟨Aa, ca, rfl⟩ := Kd.R_slice HRa510
          refine e_val (v := .slice Aa l7.length ca) rfl (r_append rfl rfl hr510) ?_
          obtain ⟨S510, F510⟩ := St_app S508 E510
          have HRa := Aside0.mk HRa510
          refine ⟨trivial, ?_⟩
          refine d_take (v := .pointer (some ⟨g2, 7, none⟩)) (listed' := #[true, true, true, true, true, true, true, false, true, false, false, false, false]) 8 rfl (by kernel_rfl) (by kernel_rfl) (by kernel_rfl) rfl (fun _ _ _ h => h) (wn rfl) (fun W hW => r_field fld_30_3 rfl rfl) trivial (by kernel_rfl) ?_
          refine d_one (listed' := #[true, true, true, true, true, true, true, true, true, false, false, false, false]) 7 rfl (by kernel_rfl) (wn rfl) (by kernel_rfl) ?_
          refine e_call (args := [.agg #[.bool b0, .slice A5 l5.length c5]]) Try.func38 (by kernel_rfl) rfl rfl ?_
          have hC5 := Kd.C_below HC5.out S510.ext.below
          refine (Own_at b0 A5 c5 l5 l5.length rfl _ hC5 (by omega) (by omega)).mono ?_
          rintro e w511 ⟨v, rfl, ho, hb⟩
          obtain ⟨Ab, cb, rfl⟩ := Kd.R_slice ho
          refine ⟨_, rfl, ?_⟩
          have B512 := hb
          have S513 := S510.call B512
          have HRan := Aside0.mk (R_below HRa.out B512)
          clear HRa
          have HRa := HRan
          clear HRan
          have HRb := Aside0.mk ho
          clear ho
          have HBo := S510.ext.size
          refine ⟨trivial, ?_⟩
          refine d_one (listed' := #[true, true, true, true, true, true, true, true, true, true, false, false, false]) 9 rfl (by kernel_rfl) (wn rfl) (by kernel_rfl) ?_
          refine e_store (vs := [.slice Aa l7.length ca]) (cs' := [.int .i64 kd, .int .i64 fd, .int .i64 s0, .int .u32 s1, .bool b0, .slice A5 l5.length c5, .int .i64 s3, .slice Aa l7.length ca]) (σ' := [⟨g6, true, .cells #[.int .i64 0, .int .i64 0, .int .i64 0, .int .u32 0, .bool false, .slice none 0 0, .int .i64 0, .slice none 0 0] 30 (0, 0)⟩, ⟨g2, true, .cells #[.int .i64 kd, .int .i64 fd, .int .i64 s0, .int .u32 s1, .bool b0, .slice A5 l5.length c5, .int .i64 s3, .slice Aa l7.length ca] 30 (0, 0)⟩]) S513 rfl rfl rfl rfl sz_24 1 rfl (.inl rfl) rfl rfl rfl ?_
          intro w514 S515 E516
          have HRan := Aside0.mk (R_ext HRa.out E516 (S513.blk 1 rfl) (by decide))
          clear HRa
          have HRa := HRan
          clear HRan
          have HRbn := Aside0.mk (R_ext HRb.out E516 (S513.blk 1 rfl) (by decide))
          clear HRb
          have HRb := HRbn
          clear HRbn
          refine ⟨trivial, ?_⟩
          refine d_take (v := .pointer (some ⟨g2, 2, none⟩)) (listed' := #[true, true, true, true, true, true, true, true, true, true, true, false, false]) 10 rfl (by kernel_rfl) (by kernel_rfl) (by kernel_rfl) rfl (fun _ _ _ h => h) (wn rfl) (fun W hW => r_field fld_30_2 rfl rfl) trivial (by kernel_rfl) ?_
          refine d_take (v := .pointer (some ⟨g2, 4, none⟩)) (listed' := #[true, true, true, true, true, true, true, true, true, true, true, true, false]) 11 rfl (by kernel_rfl) (by kernel_rfl) (by kernel_rfl) rfl (fun _ _ _ h => h) (wn rfl) (fun W hW => r_field fld_28_2 rfl rfl) trivial (by kernel_rfl) ?_
          refine d_one (listed' := #[true, true, true, true, true, true, true, true, true, true, true, true, true]) 12 rfl (by kernel_rfl) (wn rfl) (by kernel_rfl) ?_
          refine e_store (vs := [.bool b0, .slice Ab l5.length cb]) (cs' := [.int .i64 kd, .int .i64 fd, .int .i64 s0, .int .u32 s1, .bool b0, .slice Ab l5.length cb, .int .i64 s3, .slice Aa l7.length ca]) (σ' := [⟨g6, true, .cells #[.int .i64 0, .int .i64 0, .int .i64 0, .int .u32 0, .bool false, .slice none 0 0, .int .i64 0, .slice none 0 0] 30 (0, 0)⟩, ⟨g2, true, .cells #[.int .i64 kd, .int .i64 fd, .int .i64 s0, .int .u32 s1, .bool b0, .slice Ab l5.length cb, .int .i64 s3, .slice Aa l7.length ca] 30 (0, 0)⟩]) S515 rfl rfl rfl rfl sz_26 1 rfl (.inl rfl) rfl rfl rfl ?_
          intro w517 S518 E519
          have HRan := Aside0.mk (R_ext HRa.out E519 (S515.blk 1 rfl) (by decide))
          clear HRa
          have HRa := HRan
          clear HRan
          have HRbn := Aside0.mk (R_ext HRb.out E519 (S515.blk 1 rfl) (by decide))
          clear HRb
          have HRb := HRbn
          clear HRbn
          refine ⟨trivial, ?_⟩
          refine d_done (by kernel_rfl) ?_
          refine x_seq ?_
          refine s_seq ?_
          refine s_region ?_
          refine q_val (v := .agg #[.int .i64 kd, .int .i64 fd, .int .i64 s0, .int .u32 s1, .bool b0, .slice Ab l5.length cb, .int .i64 s3, .slice Aa l7.length ca]) (wn rfl) rfl (r_loadN (vs := [.int .i64 kd, .int .i64 fd, .int .i64 s0, .int .u32 s1, .bool b0, .slice Ab l5.length cb, .int .i64 s3, .slice Aa l7.length ca]) sz_30 rfl (S518.blk 1 rfl) rfl rfl) ?_
          refine q_of (wn rfl) ?_
          refine e_store (vs := [.int .i64 kd, .int .i64 fd, .int .i64 s0, .int .u32 s1, .bool b0, .slice Ab l5.length cb, .int .i64 s3, .slice Aa l7.length ca]) (cs' := [.int .i64 kd, .int .i64 fd, .int .i64 s0, .int .u32 s1, .bool b0, .slice Ab l5.length cb, .int .i64 s3, .slice Aa l7.length ca]) (σ' := [⟨g6, true, .cells #[.int .i64 kd, .int .i64 fd, .int .i64 s0, .int .u32 s1, .bool b0, .slice Ab l5.length cb, .int .i64 s3, .slice Aa l7.length ca] 30 (0, 0)⟩, ⟨g2, true, .cells #[.int .i64 kd, .int .i64 fd, .int .i64 s0, .int .u32 s1, .bool b0, .slice Ab l5.length cb, .int .i64 s3, .slice Aa l7.length ca] 30 (0, 0)⟩]) S518 rfl rfl rfl rfl sz_30 0 rfl (.inl rfl) rfl rfl rfl ?_
          intro w520 S521 E522
          have HRan := Aside0.mk (R_ext HRa.out E522 (S518.blk 0 rfl) (by decide))
          clear HRa
          have HRa := HRan
          clear HRan
          have HRbn := Aside0.mk (R_ext HRb.out E522 (S518.blk 0 rfl) (by decide))
          clear HRb
          have HRb := HRbn
          clear HRbn
          refine q_nil ?_
          refine x_seq ?_
          refine s_ret ?_
          refine t_retc (cs := [.int .i64 kd, .int .i64 fd, .int .i64 s0, .int .u32 s1, .bool b0, .slice Ab l5.length cb, .int .i64 s3, .slice Aa l7.length ca])  rfl rfl (S521.blk 0 rfl) sz_30 ?_
          have el7 : cut50 l7 = l7 := by unfold cut50; first | rw [if_pos (by omega)] | rw [if_neg (by omega)]
          have el5 : cut50 l5 = l5 := by unfold cut50; first | rw [if_pos (by omega)] | rw [if_neg (by omega)]
          rw [el7, el5]
          exact ⟨_, _, rfl, Kd.R_lower HRb.out HBo, HRa.out, S521.ext.below⟩

end Go.Proofs.Ytilfalpfanaanaa.PA
