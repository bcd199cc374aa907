/- Parts of one proof, put together by a program of this session's (wip/merge.py). -/
import Derived.Test.YtilfalpfanaanaaMClones4
import Derived.Test.YtilfalpfanaanaaMClones1
import Derived.Laws.MakeOwn
import Derived.Deep.Slices
import Derived.Test.YtilfalpfanaanaaMClones3
set_option linter.unusedVariables false
set_option linter.unusedSimpArgs false
namespace Go.Proofs.Ytilfalpfanaanaa.PA
open Go.RowKit Go.Proofs.YtilfalpfanaanaaW.PrintWords Go.Proofs.YtilfalpfanaanaaW.PrintLast Go.Proofs.YtilfalpfanaanaaW.PrintMore Go.Proofs.Ytilfalpfanaanaa.Sx
set_option maxHeartbeats 8000000 in
set_option maxRecDepth 100000 in
theorem Does_set_none {w : World} {b g p : Nat} {ok : Nat → Prop} {qs : List (Option Nat)} {ss : List (Option Slot)} {P : Nat → Prop} {ad : Addr} {c : Nat} (hI : DInv w b g p ok qs ss P ad c) (kd fd s0 s1 : Int) (b0 : Bool) (A5 : Option Addr) (c5 : Nat) (l5 : List Int) (s3 : Int) (A7 : Option Addr) (c7 : Nat) (l7 : List Int) (hr5 : Kd.C (Kd.int .i64) w A5 l5.length l5) (hc5 : l5.length ≤ c5) (hr7 : Kd.C (Kd.int .i64) w A7 l7.length l7) (hc7 : l7.length ≤ c7) (hk : kd = 1) (hcan : canS (⟨s0, s1, ⟨b0, cut50 l5⟩, s3⟩ : Slot) = true) (hs1 : 0 ≤ s1) (h0 : 0 ≤ fd) (hs : ss[fd.toNat]? = some none) : Calls Try.prog 19 #[.pointer (some ⟨g, 0, none⟩), .slice (some ad) ((ls ss).length) c, .agg #[.int .i64 kd, .int .i64 fd, .int .i64 s0, .int .u32 s1, .bool b0, .slice A5 l5.length c5, .int .i64 s3, .slice A7 l7.length c7]] w (Post w b g p ok ss.length P) := by
 have HT := Aside0.mk hI.T
 have HL := Aside0.mk hI.L
 have hll := ls_len ss
 have hfew := hI.few
 have hqs := hI.T.len
 obtain ⟨ob, hob⟩ := LV_ob hI.L (by omega)
 obtain ⟨A3, c3, hcell, h3, hF⟩ := LV_at hI.L h0 hs
 have HR := Aside0.mk (show Kd.V (Kd.int .i64) 3 w 0 P (.slice A3 (toS none).f2.f1.length c3) (toS none).f2.f1 from Kd.V_mk h3 hF)
 have S0 := St.add (St.start w ok) hob (fun x hx => by cases hx)
 refine s_enter (n := 233) (L := [(0, .pointer (some ⟨g, 0, none⟩)), (1, .slice (some ad) ((ls ss).length) c), (2, .agg #[.int .i64 kd, .int .i64 fd, .int .i64 s0, .int .u32 s1, .bool b0, .slice A5 l5.length c5, .int .i64 s3, .slice A7 l7.length c7])]) Try.func19 rfl rfl rfl rfl ?_
 refine s_seq ?_
 refine s_region ?_
 refine qo ?_
 refine e_box (cs := [.int .i64 kd, .int .i64 fd, .int .i64 s0, .int .u32 s1, .bool b0, .slice A5 l5.length c5, .int .i64 s3, .slice A7 l7.length c7]) S0 rfl rfl ?_
 intro g1 w2 hg1 S3 B4
 replace HT := tb HT B4
 replace HL := vb HL B4
 replace HR := vb HR B4
 refine qv (v := .slice none 0 0) (r_assign rfl) ?_
 refine qv (v := .bool false) (r_assign rfl) ?_
 refine q_nil ?_
 refine x_seq ?_
 refine s_seq ?_
 refine s_region ?_
 refine qv (v := .agg #[.int .i64 kd, .int .i64 fd, .int .i64 s0, .int .u32 s1, .bool b0, .slice A5 l5.length c5, .int .i64 s3, .slice A7 l7.length c7]) (r_loadN (vs := [.int .i64 kd, .int .i64 fd, .int .i64 s0, .int .u32 s1, .bool b0, .slice A5 l5.length c5, .int .i64 s3, .slice A7 l7.length c7]) sz_30 rfl (S3.blk 0 rfl) rfl rfl) ?_
 refine qo ?_
 refine e_call (args := [.agg #[.int .i64 kd, .int .i64 fd, .int .i64 s0, .int .u32 s1, .bool b0, .slice A5 l5.length c5, .int .i64 s3, .slice A7 l7.length c7]]) Try.func13 (by kernel_rfl) rfl rfl ?_
 refine (own_cut kd fd s0 s1 b0 A5 c5 l5 s3 A7 c7 l7 _ (Kd.C_below hr5 B4) hc5 (Kd.C_below hr7 B4) hc7).mono ?_
 rintro e w5 ⟨m5, m7, Ba5, da5, Ba7, da7, ⟨hm5, hm7⟩, hl5, hl7, rfl, ho5, ho7, hb⟩
 refine ⟨_, rfl, ?_⟩
 have B6 := hb
 have S7 := S3.call B6
 replace HT := tb HT B6
 replace HL := vb HL B6
 replace HR := vb HR B6
 have HA5 := Aside0.mk ho5
 have HA7 := Aside0.mk ho7
 clear ho5 ho7
 have HBa := S3.ext.size
 rw [← hm5] at hcan
 have hlt := get_lt hs
 refine qo ?_
 refine e_store (vs := [.int .i64 kd, .int .i64 fd, .int .i64 s0, .int .u32 s1, .bool b0, .slice Ba5 m5.length da5, .int .i64 s3, .slice Ba7 m7.length da7]) (cs' := [.int .i64 kd, .int .i64 fd, .int .i64 s0, .int .u32 s1, .bool b0, .slice Ba5 m5.length da5, .int .i64 s3, .slice Ba7 m7.length da7]) S7 rfl rfl rfl rfl sz_30 0 rfl (.inl rfl) rfl rfl rfl ?_
 intro w8 S9 E10
 replace HA5 := rx HA5 E10 (S7.blk 0 rfl)
 replace HA7 := rx HA7 E10 (S7.blk 0 rfl)
 replace HT := Aside0.mk (HT.out.move (fun k_ hk_ hl_ => E10.block k_ hl_ (fun e_ => by have o_ := S7.own _ (List.mem_of_getElem? (i := 0) rfl) rfl; try dsimp only at o_ e_; have b_ := hI.okN k_ hk_; omega)))
 replace HL := Aside0.mk (Kd.V_step HL.out (fun k_ hk_ hl_ => E10.block k_ hl_ (fun e_ => by have o_ := S7.own _ (List.mem_of_getElem? (i := 0) rfl) rfl; try dsimp only at o_ e_; have b_ := hI.PN k_ hk_; omega)))
 replace HR := Aside0.mk (Kd.V_step HR.out (fun k_ hk_ hl_ => E10.block k_ hl_ (fun e_ => by have o_ := S7.own _ (List.mem_of_getElem? (i := 0) rfl) rfl; try dsimp only at o_ e_; have b_ := hI.PN k_ hk_; omega)))
 refine q_nil ?_
 refine x_seq ?_
 refine s_seq ?_
 refine s_region ?_
 refine qv (v := .agg #[.int .i64 kd, .int .i64 fd, .int .i64 s0, .int .u32 s1, .bool b0, .slice Ba5 m5.length da5, .int .i64 s3, .slice Ba7 m7.length da7]) (r_loadN (vs := [.int .i64 kd, .int .i64 fd, .int .i64 s0, .int .u32 s1, .bool b0, .slice Ba5 m5.length da5, .int .i64 s3, .slice Ba7 m7.length da7]) sz_30 rfl (S9.blk 0 rfl) rfl rfl) ?_
 refine qo ?_
 refine e_call (args := [.agg #[.int .i64 kd, .int .i64 fd, .int .i64 s0, .int .u32 s1, .bool b0, .slice Ba5 m5.length da5, .int .i64 s3, .slice Ba7 m7.length da7]]) Try.func13 (by kernel_rfl) rfl rfl ?_
 refine (own_same kd fd s0 s1 b0 Ba5 da5 m5 s3 Ba7 da7 m7 _ (R_C HA5.out).2 (R_C HA5.out).1 (R_C HA7.out).2 (R_C HA7.out).1 hl5 hl7).mono ?_
 rintro e w11 ⟨Be5, de5, Be7, de7, rfl, ho5, ho7, hb⟩
 refine ⟨_, rfl, ?_⟩
 have B12 := hb
 have S13 := S9.call B12
 replace HA5 := rb HA5 B12
 replace HA7 := rb HA7 B12
 replace HT := tb HT B12
 replace HL := vb HL B12
 replace HR := vb HR B12
 have HE5 := Aside0.mk ho5
 have HE7 := Aside0.mk ho7
 clear ho5 ho7
 refine qo ?_
 refine e_alloc S13 zro_30 ?_
 intro g14 w15 hg14 S16 B17
 replace HA5 := rb HA5 B17
 replace HA7 := rb HA7 B17
 replace HE5 := rb HE5 B17
 replace HE7 := rb HE7 B17
 replace HT := tb HT B17
 replace HL := vb HL B17
 replace HR := vb HR B17
 refine qo ?_
 refine e_store (vs := [.int .i64 kd, .int .i64 fd, .int .i64 s0, .int .u32 s1, .bool b0, .slice Be5 m5.length de5, .int .i64 s3, .slice Be7 m7.length de7]) (cs' := [.int .i64 kd, .int .i64 fd, .int .i64 s0, .int .u32 s1, .bool b0, .slice Be5 m5.length de5, .int .i64 s3, .slice Be7 m7.length de7]) S16 rfl rfl rfl rfl sz_30 0 rfl (.inl rfl) rfl rfl rfl ?_
 intro w18 S19 E20
 replace HA5 := rx HA5 E20 (S16.blk 0 rfl)
 replace HA7 := rx HA7 E20 (S16.blk 0 rfl)
 replace HE5 := rx HE5 E20 (S16.blk 0 rfl)
 replace HE7 := rx HE7 E20 (S16.blk 0 rfl)
 replace HT := Aside0.mk (HT.out.move (fun k_ hk_ hl_ => E20.block k_ hl_ (fun e_ => by have o_ := S16.own _ (List.mem_of_getElem? (i := 0) rfl) rfl; try dsimp only at o_ e_; have b_ := hI.okN k_ hk_; omega)))
 replace HL := Aside0.mk (Kd.V_step HL.out (fun k_ hk_ hl_ => E20.block k_ hl_ (fun e_ => by have o_ := S16.own _ (List.mem_of_getElem? (i := 0) rfl) rfl; try dsimp only at o_ e_; have b_ := hI.PN k_ hk_; omega)))
 replace HR := Aside0.mk (Kd.V_step HR.out (fun k_ hk_ hl_ => E20.block k_ hl_ (fun e_ => by have o_ := S16.own _ (List.mem_of_getElem? (i := 0) rfl) rfl; try dsimp only at o_ e_; have b_ := hI.PN k_ hk_; omega)))
 refine q_nil ?_
 refine x_seq ?_
 refine s_seq ?_
 refine s_seq ?_
 refine s_region ?_
 refine qv (v := .pointer (some ⟨g1, 0, none⟩)) (r_field fld_30_0 rfl rfl) ?_
 refine qv (v := .int .i64 kd) (r_load1 sz_3 rfl (S19.cell 1 rfl rfl)) ?_
 refine q_nil ?_
 refine x_seq ?_
 refine s_block ?_
 refine s_seq ?_
 refine s_region ?_
 refine qv (v := .bool true) (r_eql rfl rfl (beq_t (by omega))) ?_
 refine qv (v := .bool true) (r_assign rfl) ?_
 refine q_nil ?_
 refine x_seq ?_
 refine s_true rfl ?_
 refine s_seq ?_
 refine s_region ?_
 refine qv (v := .pointer (some ⟨g, 0, none⟩)) (r_move rfl) ?_
 refine qv (v := .pointer (some ⟨g14, 1, none⟩)) (r_field fld_30_1 rfl rfl) ?_
 refine qv (v := .int .i64 fd) (r_load1 sz_3 rfl (S19.cell 0 rfl rfl)) ?_
 refine qv (v := .pointer (some ⟨g14, 2, none⟩)) (r_field fld_30_2 rfl rfl) ?_
 refine qv (v := .agg #[.int .i64 s0, .int .u32 s1, .bool b0, .slice Be5 m5.length de5, .int .i64 s3]) (r_loadN (vs := [.int .i64 s0, .int .u32 s1, .bool b0, .slice Be5 m5.length de5, .int .i64 s3]) sz_28 rfl (S19.blk 0 rfl) rfl rfl) ?_
 refine qo ?_
 refine e_call (args := [.pointer (some ⟨g, 0, none⟩), .int .i64 fd, .agg #[.int .i64 s0, .int .u32 s1, .bool b0, .slice Be5 m5.length de5, .int .i64 s3]]) Try.func29 (by kernel_rfl) rfl rfl ?_
 have zbg14 := heap_lt (S19.blk 0 rfl)
 have zog14 := S19.own _ (List.mem_of_getElem? (i := 0) rfl) rfl
 dsimp only at zbg14 zog14
 have zbg1 := heap_lt (S19.blk 1 rfl)
 have zog1 := S19.own _ (List.mem_of_getElem? (i := 1) rfl) rfl
 dsimp only at zbg1 zog1
 have zx_ := hI.okN _ hI.T.low.2.2.2
 have hw1_ := S19.ext.size
 have hne_ := LV_ne hI.L (by omega) hI.T.row
 replace HA5 := Aside0.mk (show Kd.R (Kd.int .i64) 3 w18 w2.heap.size (fun k_ => w2.heap.size ≤ k_ ∧ k_ < w18.heap.size) _ _ from Kd.R_mono (Kd.R_bound HA5.out) (fun k_ h_ => ⟨h_.2.1, h_.2.2.1⟩))
 obtain ⟨_, hblk_⟩ : ∃ cs_, w18.heap[p]? = some (.cells cs_ 71 (0, 0)) := ⟨_, HT.out.row⟩
 refine (Set_none (TabAt.mono HT.out (ok' := fun k => ok k ∨ w18.heap.size ≤ k) (fun k h => .inl h)) (fun k h => .inr h) fd h0 (tab_none hI.T hs) (⟨s0, s1, ⟨b0, m5⟩, s3⟩ : Slot) Be5 de5 (R_C HE5.out).2 (R_C HE5.out).1 200 (by rw [wcanS (⟨s0, s1, ⟨b0, m5⟩, s3⟩ : Slot) hl5, hcan]) (by show m5.length * 8 ≤ _; omega)).mono ?_
 rintro e w21 ⟨rfl, ⟨q3, hT3⟩, hE⟩
 refine ⟨_, rfl, ?_⟩
 have Sl_ : St w ok w18 [⟨g14, true, .cells #[.int .i64 kd, .int .i64 fd, .int .i64 s0, .int .u32 s1, .bool b0, .slice Be5 m5.length de5, .int .i64 s3, .slice Be7 m7.length de7] 30 (0, 0)⟩, ⟨g1, true, .cells #[.int .i64 kd, .int .i64 fd, .int .i64 s0, .int .u32 s1, .bool b0, .slice Ba5 m5.length da5, .int .i64 s3, .slice Ba7 m7.length da7] 30 (0, 0)⟩, ⟨ad.block, false, ob⟩] := S19
 have S22 := Sl_.callX hE (fun x_ hx_ e_ => by simp only [List.mem_cons, List.not_mem_nil, or_false] at hx_; rcases hx_ with rfl | rfl | rfl; all_goals ((try dsimp only at e_); omega)) (fun k_ h1_ h2_ => by (try dsimp only at h2_); rw [h2_]; exact hI.T.low.2.2.2)
 replace HA5 := rx HA5 hE hblk_
 replace HA7 := rx HA7 hE hblk_
 replace HE5 := rx HE5 hE hblk_
 replace HE7 := rx HE7 hE hblk_
 replace HL := Aside0.mk (Kd.V_step HL.out (fun k_ hk_ hl_ => hE.block k_ hl_ (fun e_ => by (try dsimp only at e_); rw [e_] at hk_; exact hI.D _ hI.T.low.2.2.2 hk_)))
 replace HR := Aside0.mk (Kd.V_step HR.out (fun k_ hk_ hl_ => hE.block k_ hl_ (fun e_ => by (try dsimp only at e_); rw [e_] at hk_; exact hI.D _ hI.T.low.2.2.2 hk_)))
 have hw2_ := hE.size
 clear HT
 have HT := Aside0.mk hT3.bound
 have HZ := Aside0.mk (Nat.le_refl w21.heap.size)
 have hokb : ∀ k, ((ok k ∨ w18.heap.size ≤ k) ∧ k < w21.heap.size) → k < w.heap.size ∨ (w18.heap.size ≤ k ∧ k < w21.heap.size) := fun k h => h.1.elim (fun h1 => .inl (hI.okN k h1)) (fun h1 => .inr ⟨h1, h.2⟩)
 clear hE hblk_ hT3
 refine qv (v := .tuple #[.agg #[.int .i64 0, .int .u32 0, .bool false, .slice none 0 0, .int .i64 0], .bool false, .int .i64 0]) (r_move rfl) ?_
 refine qv (v := .agg #[.int .i64 0, .int .u32 0, .bool false, .slice none 0 0, .int .i64 0]) (r_extract rfl rfl) ?_
 refine qv (v := .bool false) (r_extract rfl rfl) ?_
 refine qv (v := .int .i64 0) (r_extract rfl rfl) ?_
 refine qo ?_
 refine e_alloc S22 zro_28 ?_
 intro g23 w24 hg23 S25 B26
 have zag23 : w21.heap.size ≤ g23 := by have h_ := HZ.out; omega
 replace HA5 := rb HA5 B26
 replace HA7 := rb HA7 B26
 replace HE5 := rb HE5 B26
 replace HE7 := rb HE7 B26
 replace HT := tb HT B26
 replace HL := vb HL B26
 replace HR := vb HR B26
 replace HZ := zb HZ B26
 refine qo ?_
 refine e_store (vs := [.int .i64 0, .int .u32 0, .bool false, .slice none 0 0, .int .i64 0]) (cs' := [.int .i64 0, .int .u32 0, .bool false, .slice none 0 0, .int .i64 0]) S25 rfl rfl rfl rfl sz_28 0 rfl (.inl rfl) rfl rfl rfl ?_
 intro w27 S28 E29
 replace HA5 := rx HA5 E29 (S25.blk 0 rfl)
 replace HA7 := rx HA7 E29 (S25.blk 0 rfl)
 replace HE5 := rx HE5 E29 (S25.blk 0 rfl)
 replace HE7 := rx HE7 E29 (S25.blk 0 rfl)
 replace HT := Aside0.mk (HT.out.move (fun k_ hk_ hl_ => E29.block k_ hl_ (fun e_ => by have o_ := S25.own _ (List.mem_of_getElem? (i := 0) rfl) rfl; try dsimp only at o_ e_; have b_ := hokb k_ hk_; omega)))
 replace HL := Aside0.mk (Kd.V_step HL.out (fun k_ hk_ hl_ => E29.block k_ hl_ (fun e_ => by have o_ := S25.own _ (List.mem_of_getElem? (i := 0) rfl) rfl; try dsimp only at o_ e_; have b_ := hI.PN k_ hk_; omega)))
 replace HR := Aside0.mk (Kd.V_step HR.out (fun k_ hk_ hl_ => E29.block k_ hl_ (fun e_ => by have o_ := S25.own _ (List.mem_of_getElem? (i := 0) rfl) rfl; try dsimp only at o_ e_; have b_ := hI.PN k_ hk_; omega)))
 replace HZ := Aside0.mk (Nat.le_trans HZ.out E29.size)
 refine qv (v := .bool false) (r_assign rfl) ?_
 refine qv (v := .int .i64 0) (r_assign rfl) ?_
 refine q_nil ?_
 refine x_seq ?_
 refine s_seq ?_
 refine s_seq ?_
 refine s_region ?_
 refine qv (v := .pointer (some ⟨g1, 2, none⟩)) (r_field fld_30_2 rfl rfl) ?_
 refine qv (v := .agg #[.int .i64 s0, .int .u32 s1, .bool b0, .slice Ba5 m5.length da5, .int .i64 s3]) (r_loadN (vs := [.int .i64 s0, .int .u32 s1, .bool b0, .slice Ba5 m5.length da5, .int .i64 s3]) sz_28 rfl (S28.blk 2 rfl) rfl rfl) ?_
 refine qo ?_
 refine e_call (args := [.agg #[.int .i64 s0, .int .u32 s1, .bool b0, .slice Ba5 m5.length da5, .int .i64 s3]]) Try.func9 (by kernel_rfl) rfl rfl ?_
 refine (purlieuref13_Can.calls 200 s0 s1 b0 Ba5 da5 m5 s3 true _ (R_C HA5.out).2 (R_C HA5.out).1 (by rw [rcanS (⟨s0, s1, ⟨b0, m5⟩, s3⟩ : Slot) hl5, hcan])).mono ?_
 rintro e w30 ⟨rfl, hb⟩
 refine ⟨_, rfl, ?_⟩
 have B31 := hb
 have S32 := S28.call B31
 replace HA5 := rb HA5 B31
 replace HA7 := rb HA7 B31
 replace HE5 := rb HE5 B31
 replace HE7 := rb HE7 B31
 replace HT := tb HT B31
 replace HL := vb HL B31
 replace HR := vb HR B31
 replace HZ := zb HZ B31
 refine qv (v := .bool false) (r_not rfl rfl) ?_
 refine q_nil ?_
 refine x_seq ?_
 refine s_false rfl ?_
 refine s_skip ?_
 refine x_seq ?_
 refine s_seq ?_
 refine s_seq ?_
 refine s_region ?_
 refine qv (v := .pointer (some ⟨g1, 1, none⟩)) (r_field fld_30_1 rfl rfl) ?_
 refine qv (v := .int .i64 fd) (r_load1 sz_3 rfl (S32.cell 2 rfl rfl)) ?_
 refine qv (v := .bool false) (r_lss rfl rfl (decide_eq_false (by omega))) ?_
 refine qv (v := .bool false) (r_move rfl) ?_
 refine q_val (v := .pointer (some ⟨g1, 1, none⟩)) (wan rfl rfl rfl rfl) rfl (r_field fld_30_1 rfl rfl) ?_
 refine q_val (v := .int .i64 fd) (wan rfl rfl rfl rfl) rfl (r_load1 sz_3 rfl (S32.cell 2 rfl rfl)) ?_
 refine q_val (v := .slice (some ad) ((ls ss).length) c) (wan rfl rfl rfl rfl) rfl (r_move rfl) ?_
 refine q_val (v := .int .i64 (((ls ss).length : Nat) : Int)) (wan rfl rfl rfl rfl) rfl (r_len_slice elm_47 rfl) ?_
 refine q_val (v := .bool false) (wan rfl rfl rfl rfl) rfl (r_geq rfl rfl (decide_eq_false (by omega))) ?_
 refine qv (v := .bool false) (r_pick_f rfl rfl) ?_
 refine q_nil ?_
 refine x_seq ?_
 refine s_false rfl ?_
 refine s_skip ?_
 refine x_seq ?_
 refine s_seq ?_
 refine d_start mix (fun W => St w (ok) W [⟨g23, true, .cells #[.int .i64 0, .int .u32 0, .bool false, .slice none 0 0, .int .i64 0] 28 (0, 0)⟩, ⟨g14, true, .cells #[.int .i64 kd, .int .i64 fd, .int .i64 s0, .int .u32 s1, .bool b0, .slice Be5 m5.length de5, .int .i64 s3, .slice Be7 m7.length de7] 30 (0, 0)⟩, ⟨g1, true, .cells #[.int .i64 kd, .int .i64 fd, .int .i64 s0, .int .u32 s1, .bool b0, .slice Ba5 m5.length da5, .int .i64 s3, .slice Ba7 m7.length da7] 30 (0, 0)⟩, ⟨ad.block, false, ob⟩]) ?_
 have S33 := S32.draw
 have B35 := Below_drew w30
 generalize w30.drew = w34 at S33 B35 ⊢
 replace HA5 := rb HA5 B35
 replace HA7 := rb HA7 B35
 replace HE5 := rb HE5 B35
 replace HE7 := rb HE7 B35
 replace HT := tb HT B35
 replace HL := vb HL B35
 replace HR := vb HR B35
 replace HZ := zb HZ B35
 refine dt 30 1 (v := .slice (some ad) ((ls ss).length) c) 0 rfl rfl (wn rfl) (fun W hW => r_move rfl) S33 ?_
 refine dt 30 3 (v := .pointer (some ⟨g1, 1, none⟩)) 1 rfl rfl (wn rfl) (fun W hW => r_field fld_30_1 rfl rfl) S33 ?_
 refine dt 30 7 (v := .int .i64 fd) 2 rfl rfl (wn rfl) (fun W hW => r_load1 sz_3 rfl (hW.cell 2 rfl rfl)) S33 ?_
 refine dt 30 15 (v := .pointer (some ⟨g1, 2, none⟩)) 3 rfl rfl (wn rfl) (fun W hW => r_field fld_30_2 rfl rfl) S33 ?_
 refine dt 30 31 (v := .agg #[.int .i64 s0, .int .u32 s1, .bool b0, .slice Ba5 m5.length da5, .int .i64 s3]) 4 rfl rfl (wn rfl) (fun W hW => r_loadN (vs := [.int .i64 s0, .int .u32 s1, .bool b0, .slice Ba5 m5.length da5, .int .i64 s3]) sz_28 rfl (hW.blk 2 rfl) rfl rfl) S33 ?_
 refine dt 30 95 (v := .int .i64 0) 6 rfl rfl (wn rfl) (fun W hW => r_move rfl) S33 ?_
 refine dt 30 223 (v := .bool true) 7 rfl rfl (wn rfl) (fun W hW => r_eql rfl rfl (beq_t (by omega))) S33 ?_
 refine d1 30 255 5 rfl (wn rfl) ?_
 refine e_call (args := [.slice (some ad) ((ls ss).length) c, .int .i64 fd, .agg #[.int .i64 s0, .int .u32 s1, .bool b0, .slice Ba5 m5.length da5, .int .i64 s3]]) Try.func44 (by kernel_rfl) rfl rfl ?_
 have hV_ := (Kd.R_V (base' := 0) HA5.out)
 have hz3_ := HZ.out
 refine (With_ls HL.out (by omega) fd h0 (by omega) (some (⟨s0, s1, ⟨b0, m5⟩, s3⟩ : Slot)) hV_).mono ?_
 rintro e w36 ⟨ad2, c2, rfl, hL2, hb⟩
 refine ⟨_, rfl, ?_⟩
 have B37 := hb
 have S38 := S33.call B37
 replace HA5 := rb HA5 B37
 replace HA7 := rb HA7 B37
 replace HE5 := rb HE5 B37
 replace HE7 := rb HE7 B37
 replace HT := tb HT B37
 replace HL := vb HL B37
 replace HR := vb HR B37
 replace HZ := zb HZ B37
 have HL2 := Aside0.mk hL2
 refine ⟨S38, ?_⟩
 refine dt 30 511 (v := .bool true) 8 rfl rfl (wn rfl) (fun W hW => r_move rfl) S38 ?_
 refine dt 30 1023 (v := .bool false) 9 rfl rfl (wan rfl rfl rfl rfl) (fun W hW => r_move rfl) S38 ?_
 refine dt 30 2047 (v := .slice (some ad) ((ls ss).length) c) 10 rfl rfl (wan rfl rfl rfl rfl) (fun W hW => r_move rfl) S38 ?_
 refine dt 30 4095 (v := .pointer (some ⟨g1, 1, none⟩)) 11 rfl rfl (wan rfl rfl rfl rfl) (fun W hW => r_field fld_30_1 rfl rfl) S38 ?_
 refine dt 30 8191 (v := .int .i64 fd) 12 rfl rfl (wan rfl rfl rfl rfl) (fun W hW => r_load1 sz_3 rfl (hW.cell 2 rfl rfl)) S38 ?_
 refine dt 30 16383 (v := .pointer (some (ad.add (fd.toNat * 5)))) 13 rfl rfl (wan rfl rfl rfl rfl) (fun W hW => r_indexA elm_47 rfl rfl (by omega) (by omega) rfl) S38 ?_
 refine dt 30 32767 (v := .pointer (some (ad.add (fd.toNat * 5)))) 14 rfl rfl (wan rfl rfl rfl rfl) (fun W hW => r_fieldA fld_28_0 rfl rfl) S38 ?_
 refine dt 30 65535 (v := .int .i64 ((toS none).f0)) 15 rfl rfl (wan rfl rfl rfl rfl) (fun W hW => r_load1A sz_3 rfl (cells_raw (vs := [.int .i64 ((toS none).f0), .int .u32 ((toS none).f1), .bool ((toS none).f2.f0), .slice A3 ((toS none).f2.f1.length) c3, .int .i64 ((toS none).f3)]) rfl hob (hW.blk 3 rfl) hcell) rfl) S38 ?_
 refine dt 30 131071 (v := .bool false) 16 rfl rfl (wan rfl rfl rfl rfl) (fun W hW => r_gtr rfl rfl (decide_eq_false (by decide))) S38 ?_
 refine dt 30 262143 (v := .bool true) 17 rfl rfl (wan rfl rfl rfl rfl) (fun W hW => r_beql bol_4 rfl rfl rfl) S38 ?_
 refine dt 30 524287 (v := .bool true) 18 rfl rfl (wn rfl) (fun W hW => r_pick_t rfl rfl) S38 ?_
 refine dt 30 1048575 (v := .bool true) 19 rfl rfl (wn rfl) (fun W hW => r_move rfl) S38 ?_
 refine dt 30 2097151 (v := .agg #[.int .i64 0, .int .u32 0, .bool false, .slice none 0 0, .int .i64 0]) 20 rfl rfl (wan rfl rfl rfl rfl) (fun W hW => r_loadN (vs := [.int .i64 0, .int .u32 0, .bool false, .slice none 0 0, .int .i64 0]) sz_28 rfl (hW.blk 0 rfl) rfl rfl) S38 ?_
 refine dt 30 4194303 (v := .slice (some ad) ((ls ss).length) c) 21 rfl rfl (wan rfl rfl rfl rfl) (fun W hW => r_move rfl) S38 ?_
 refine dt 30 8388607 (v := .pointer (some ⟨g1, 1, none⟩)) 22 rfl rfl (wan rfl rfl rfl rfl) (fun W hW => r_field fld_30_1 rfl rfl) S38 ?_
 refine dt 30 16777215 (v := .int .i64 fd) 23 rfl rfl (wan rfl rfl rfl rfl) (fun W hW => r_load1 sz_3 rfl (hW.cell 2 rfl rfl)) S38 ?_
 refine dt 30 33554431 (v := .pointer (some (ad.add (fd.toNat * 5)))) 24 rfl rfl (wan rfl rfl rfl rfl) (fun W hW => r_indexA elm_47 rfl rfl (by omega) (by omega) rfl) S38 ?_
 refine dt 30 67108863 (v := .agg #[.int .i64 ((toS none).f0), .int .u32 ((toS none).f1), .bool ((toS none).f2.f0), .slice A3 ((toS none).f2.f1.length) c3, .int .i64 ((toS none).f3)]) 25 rfl rfl (wan rfl rfl rfl rfl) (fun W hW => r_loadNA sz_28 rfl rfl (cells_raw (vs := [.int .i64 ((toS none).f0), .int .u32 ((toS none).f1), .bool ((toS none).f2.f0), .slice A3 ((toS none).f2.f1.length) c3, .int .i64 ((toS none).f3)]) rfl hob (hW.blk 3 rfl) hcell)) S38 ?_
 refine d1 30 134217727 26 rfl (wan rfl rfl rfl rfl) ?_
 refine e_call (args := [.agg #[.int .i64 0, .int .u32 0, .bool false, .slice none 0 0, .int .i64 0], .agg #[.int .i64 ((toS none).f0), .int .u32 ((toS none).f1), .bool ((toS none).f2.f0), .slice A3 ((toS none).f2.f1.length) c3, .int .i64 ((toS none).f3)]]) Try.func18 (by kernel_rfl) rfl rfl ?_
 obtain ⟨ko, hko⟩ := one_same z28 (by exact Nat.zero_le _)
 refine (purlieuref13_One.calls ko z28.f0 z28.f1 z28.f2.f0 none 0 z28.f2.f1 z28.f3 z28.f0 z28.f1 z28.f2.f0 A3 c3 z28.f2.f1 z28.f3 true _ (R_C (Kd.R_nil (Kd.int .i64) 3 w36 0 (fun _ => True))).2 (Nat.le_refl _) (Kd.V_reads' HR.out).2.2 (Kd.V_reads' HR.out).2.1 hko).mono ?_
 rintro e w39 ⟨rfl, hb⟩
 refine ⟨_, rfl, ?_⟩
 have B40 := hb
 have S41 := S38.call B40
 replace HA5 := rb HA5 B40
 replace HA7 := rb HA7 B40
 replace HE5 := rb HE5 B40
 replace HE7 := rb HE7 B40
 replace HT := tb HT B40
 replace HL := vb HL B40
 replace HR := vb HR B40
 replace HL2 := vb HL2 B40
 replace HZ := zb HZ B40
 refine ⟨S41, ?_⟩
 refine dt 30 268435455 (v := .bool true) 27 rfl rfl (wn rfl) (fun W hW => r_pick_t rfl rfl) S41 ?_
 refine dt 30 536870911 (v := .slice (some ad2) ((ls (ss.set fd.toNat (some (⟨s0, s1, ⟨b0, m5⟩, s3⟩ : Slot)))).length) c2) 28 rfl rfl (wn rfl) (fun W hW => r_assign rfl) S41 ?_
 refine dt 30 1073741823 (v := .bool true) 29 rfl rfl (wn rfl) (fun W hW => r_assign rfl) S41 ?_
 refine d_done (by kernel_rfl) ?_
 refine x_seq ?_
 refine s_ret ?_
 refine x_blk_ret ?_
 refine x_seq_ret ?_
 refine t_ret2 (v := .slice (some ad2) ((ls (ss.set fd.toNat (some (⟨s0, s1, ⟨b0, m5⟩, s3⟩ : Slot)))).length) c2) (v' := .bool true) rfl rfl rfl ?_
 exact post_new hI S41.ext HT.out HL2.out (by simp) (hI.G.set _ (fun s_ h_ => by obtain rfl := Option.some.inj h_; exact good_can hcan hs1 hl5)) w18.heap.size w21.heap.size hw1_ hw2_ (fun k_ h_ hl_ => h_.1.elim .inl (fun h2 => .inr ⟨h2, h_.2⟩)) (fun k_ h_ hl_ => by rcases h_ with (h_ | h_) | h_ <;> first | exact .inl h_ | (right; left; omega) | (right; right; omega))
set_option maxHeartbeats 8000000 in
set_option maxRecDepth 100000 in
theorem Does_set_some {w : World} {b g p : Nat} {ok : Nat → Prop} {qs : List (Option Nat)} {ss : List (Option Slot)} {P : Nat → Prop} {ad : Addr} {c : Nat} (hI : DInv w b g p ok qs ss P ad c) (kd fd s0 s1 : Int) (b0 : Bool) (A5 : Option Addr) (c5 : Nat) (l5 : List Int) (s3 : Int) (A7 : Option Addr) (c7 : Nat) (l7 : List Int) (hr5 : Kd.C (Kd.int .i64) w A5 l5.length l5) (hc5 : l5.length ≤ c5) (hr7 : Kd.C (Kd.int .i64) w A7 l7.length l7) (hc7 : l7.length ≤ c7) (hk : kd = 1) (hcan : canS (⟨s0, s1, ⟨b0, cut50 l5⟩, s3⟩ : Slot) = true) (hs1 : 0 ≤ s1) (h0 : 0 ≤ fd) {s : Slot} (hs : ss[fd.toNat]? = some (some s)) {q : Nat} (hq : qs[fd.toNat]? = some (some q)) : Calls Try.prog 19 #[.pointer (some ⟨g, 0, none⟩), .slice (some ad) ((ls ss).length) c, .agg #[.int .i64 kd, .int .i64 fd, .int .i64 s0, .int .u32 s1, .bool b0, .slice A5 l5.length c5, .int .i64 s3, .slice A7 l7.length c7]] w (Post w b g p ok ss.length P) := by
 have HT := Aside0.mk hI.T
 have HL := Aside0.mk hI.L
 have hll := ls_len ss
 have hfew := hI.few
 have hqs := hI.T.len
 obtain ⟨ob, hob⟩ := LV_ob hI.L (by omega)
 obtain ⟨A3, c3, hcell, h3, hF⟩ := LV_at hI.L h0 hs
 have HR := Aside0.mk (show Kd.V (Kd.int .i64) 3 w 0 P (.slice A3 (toS (some s)).f2.f1.length c3) (toS (some s)).f2.f1 from Kd.V_mk h3 hF)
 have S0 := St.add (St.start w ok) hob (fun x hx => by cases hx)
 refine s_enter (n := 233) (L := [(0, .pointer (some ⟨g, 0, none⟩)), (1, .slice (some ad) ((ls ss).length) c), (2, .agg #[.int .i64 kd, .int .i64 fd, .int .i64 s0, .int .u32 s1, .bool b0, .slice A5 l5.length c5, .int .i64 s3, .slice A7 l7.length c7])]) Try.func19 rfl rfl rfl rfl ?_
 refine s_seq ?_
 refine s_region ?_
 refine qo ?_
 refine e_box (cs := [.int .i64 kd, .int .i64 fd, .int .i64 s0, .int .u32 s1, .bool b0, .slice A5 l5.length c5, .int .i64 s3, .slice A7 l7.length c7]) S0 rfl rfl ?_
 intro g1 w2 hg1 S3 B4
 replace HT := tb HT B4
 replace HL := vb HL B4
 replace HR := vb HR B4
 refine qv (v := .slice none 0 0) (r_assign rfl) ?_
 refine qv (v := .bool false) (r_assign rfl) ?_
 refine q_nil ?_
 refine x_seq ?_
 refine s_seq ?_
 refine s_region ?_
 refine qv (v := .agg #[.int .i64 kd, .int .i64 fd, .int .i64 s0, .int .u32 s1, .bool b0, .slice A5 l5.length c5, .int .i64 s3, .slice A7 l7.length c7]) (r_loadN (vs := [.int .i64 kd, .int .i64 fd, .int .i64 s0, .int .u32 s1, .bool b0, .slice A5 l5.length c5, .int .i64 s3, .slice A7 l7.length c7]) sz_30 rfl (S3.blk 0 rfl) rfl rfl) ?_
 refine qo ?_
 refine e_call (args := [.agg #[.int .i64 kd, .int .i64 fd, .int .i64 s0, .int .u32 s1, .bool b0, .slice A5 l5.length c5, .int .i64 s3, .slice A7 l7.length c7]]) Try.func13 (by kernel_rfl) rfl rfl ?_
 refine (own_cut kd fd s0 s1 b0 A5 c5 l5 s3 A7 c7 l7 _ (Kd.C_below hr5 B4) hc5 (Kd.C_below hr7 B4) hc7).mono ?_
 rintro e w5 ⟨m5, m7, Ba5, da5, Ba7, da7, ⟨hm5, hm7⟩, hl5, hl7, rfl, ho5, ho7, hb⟩
 refine ⟨_, rfl, ?_⟩
 have B6 := hb
 have S7 := S3.call B6
 replace HT := tb HT B6
 replace HL := vb HL B6
 replace HR := vb HR B6
 have HA5 := Aside0.mk ho5
 have HA7 := Aside0.mk ho7
 clear ho5 ho7
 have HBa := S3.ext.size
 rw [← hm5] at hcan
 have hlt := get_lt hs
 refine qo ?_
 refine e_store (vs := [.int .i64 kd, .int .i64 fd, .int .i64 s0, .int .u32 s1, .bool b0, .slice Ba5 m5.length da5, .int .i64 s3, .slice Ba7 m7.length da7]) (cs' := [.int .i64 kd, .int .i64 fd, .int .i64 s0, .int .u32 s1, .bool b0, .slice Ba5 m5.length da5, .int .i64 s3, .slice Ba7 m7.length da7]) S7 rfl rfl rfl rfl sz_30 0 rfl (.inl rfl) rfl rfl rfl ?_
 intro w8 S9 E10
 replace HA5 := rx HA5 E10 (S7.blk 0 rfl)
 replace HA7 := rx HA7 E10 (S7.blk 0 rfl)
 replace HT := Aside0.mk (HT.out.move (fun k_ hk_ hl_ => E10.block k_ hl_ (fun e_ => by have o_ := S7.own _ (List.mem_of_getElem? (i := 0) rfl) rfl; try dsimp only at o_ e_; have b_ := hI.okN k_ hk_; omega)))
 replace HL := Aside0.mk (Kd.V_step HL.out (fun k_ hk_ hl_ => E10.block k_ hl_ (fun e_ => by have o_ := S7.own _ (List.mem_of_getElem? (i := 0) rfl) rfl; try dsimp only at o_ e_; have b_ := hI.PN k_ hk_; omega)))
 replace HR := Aside0.mk (Kd.V_step HR.out (fun k_ hk_ hl_ => E10.block k_ hl_ (fun e_ => by have o_ := S7.own _ (List.mem_of_getElem? (i := 0) rfl) rfl; try dsimp only at o_ e_; have b_ := hI.PN k_ hk_; omega)))
 refine q_nil ?_
 refine x_seq ?_
 refine s_seq ?_
 refine s_region ?_
 refine qv (v := .agg #[.int .i64 kd, .int .i64 fd, .int .i64 s0, .int .u32 s1, .bool b0, .slice Ba5 m5.length da5, .int .i64 s3, .slice Ba7 m7.length da7]) (r_loadN (vs := [.int .i64 kd, .int .i64 fd, .int .i64 s0, .int .u32 s1, .bool b0, .slice Ba5 m5.length da5, .int .i64 s3, .slice Ba7 m7.length da7]) sz_30 rfl (S9.blk 0 rfl) rfl rfl) ?_
 refine qo ?_
 refine e_call (args := [.agg #[.int .i64 kd, .int .i64 fd, .int .i64 s0, .int .u32 s1, .bool b0, .slice Ba5 m5.length da5, .int .i64 s3, .slice Ba7 m7.length da7]]) Try.func13 (by kernel_rfl) rfl rfl ?_
 refine (own_same kd fd s0 s1 b0 Ba5 da5 m5 s3 Ba7 da7 m7 _ (R_C HA5.out).2 (R_C HA5.out).1 (R_C HA7.out).2 (R_C HA7.out).1 hl5 hl7).mono ?_
 rintro e w11 ⟨Be5, de5, Be7, de7, rfl, ho5, ho7, hb⟩
 refine ⟨_, rfl, ?_⟩
 have B12 := hb
 have S13 := S9.call B12
 replace HA5 := rb HA5 B12
 replace HA7 := rb HA7 B12
 replace HT := tb HT B12
 replace HL := vb HL B12
 replace HR := vb HR B12
 have HE5 := Aside0.mk ho5
 have HE7 := Aside0.mk ho7
 clear ho5 ho7
 refine qo ?_
 refine e_alloc S13 zro_30 ?_
 intro g14 w15 hg14 S16 B17
 replace HA5 := rb HA5 B17
 replace HA7 := rb HA7 B17
 replace HE5 := rb HE5 B17
 replace HE7 := rb HE7 B17
 replace HT := tb HT B17
 replace HL := vb HL B17
 replace HR := vb HR B17
 refine qo ?_
 refine e_store (vs := [.int .i64 kd, .int .i64 fd, .int .i64 s0, .int .u32 s1, .bool b0, .slice Be5 m5.length de5, .int .i64 s3, .slice Be7 m7.length de7]) (cs' := [.int .i64 kd, .int .i64 fd, .int .i64 s0, .int .u32 s1, .bool b0, .slice Be5 m5.length de5, .int .i64 s3, .slice Be7 m7.length de7]) S16 rfl rfl rfl rfl sz_30 0 rfl (.inl rfl) rfl rfl rfl ?_
 intro w18 S19 E20
 replace HA5 := rx HA5 E20 (S16.blk 0 rfl)
 replace HA7 := rx HA7 E20 (S16.blk 0 rfl)
 replace HE5 := rx HE5 E20 (S16.blk 0 rfl)
 replace HE7 := rx HE7 E20 (S16.blk 0 rfl)
 replace HT := Aside0.mk (HT.out.move (fun k_ hk_ hl_ => E20.block k_ hl_ (fun e_ => by have o_ := S16.own _ (List.mem_of_getElem? (i := 0) rfl) rfl; try dsimp only at o_ e_; have b_ := hI.okN k_ hk_; omega)))
 replace HL := Aside0.mk (Kd.V_step HL.out (fun k_ hk_ hl_ => E20.block k_ hl_ (fun e_ => by have o_ := S16.own _ (List.mem_of_getElem? (i := 0) rfl) rfl; try dsimp only at o_ e_; have b_ := hI.PN k_ hk_; omega)))
 replace HR := Aside0.mk (Kd.V_step HR.out (fun k_ hk_ hl_ => E20.block k_ hl_ (fun e_ => by have o_ := S16.own _ (List.mem_of_getElem? (i := 0) rfl) rfl; try dsimp only at o_ e_; have b_ := hI.PN k_ hk_; omega)))
 refine q_nil ?_
 refine x_seq ?_
 refine s_seq ?_
 refine s_seq ?_
 refine s_region ?_
 refine qv (v := .pointer (some ⟨g1, 0, none⟩)) (r_field fld_30_0 rfl rfl) ?_
 refine qv (v := .int .i64 kd) (r_load1 sz_3 rfl (S19.cell 1 rfl rfl)) ?_
 refine q_nil ?_
 refine x_seq ?_
 refine s_block ?_
 refine s_seq ?_
 refine s_region ?_
 refine qv (v := .bool true) (r_eql rfl rfl (beq_t (by omega))) ?_
 refine qv (v := .bool true) (r_assign rfl) ?_
 refine q_nil ?_
 refine x_seq ?_
 refine s_true rfl ?_
 refine s_seq ?_
 refine s_region ?_
 refine qv (v := .pointer (some ⟨g, 0, none⟩)) (r_move rfl) ?_
 refine qv (v := .pointer (some ⟨g14, 1, none⟩)) (r_field fld_30_1 rfl rfl) ?_
 refine qv (v := .int .i64 fd) (r_load1 sz_3 rfl (S19.cell 0 rfl rfl)) ?_
 refine qv (v := .pointer (some ⟨g14, 2, none⟩)) (r_field fld_30_2 rfl rfl) ?_
 refine qv (v := .agg #[.int .i64 s0, .int .u32 s1, .bool b0, .slice Be5 m5.length de5, .int .i64 s3]) (r_loadN (vs := [.int .i64 s0, .int .u32 s1, .bool b0, .slice Be5 m5.length de5, .int .i64 s3]) sz_28 rfl (S19.blk 0 rfl) rfl rfl) ?_
 refine qo ?_
 refine e_call (args := [.pointer (some ⟨g, 0, none⟩), .int .i64 fd, .agg #[.int .i64 s0, .int .u32 s1, .bool b0, .slice Be5 m5.length de5, .int .i64 s3]]) Try.func29 (by kernel_rfl) rfl rfl ?_
 have zbg14 := heap_lt (S19.blk 0 rfl)
 have zog14 := S19.own _ (List.mem_of_getElem? (i := 0) rfl) rfl
 dsimp only at zbg14 zog14
 have zbg1 := heap_lt (S19.blk 1 rfl)
 have zog1 := S19.own _ (List.mem_of_getElem? (i := 1) rfl) rfl
 dsimp only at zbg1 zog1
 have zx_ := hI.okN _ hI.T.low.2.2.2
 have hw1_ := S19.ext.size
 have hne_ := LV_ne hI.L (by omega) hI.T.row
 replace HA5 := Aside0.mk (show Kd.R (Kd.int .i64) 3 w18 w2.heap.size (fun k_ => w2.heap.size ≤ k_ ∧ k_ < w18.heap.size) _ _ from Kd.R_mono (Kd.R_bound HA5.out) (fun k_ h_ => ⟨h_.2.1, h_.2.2.1⟩))
 obtain ⟨_, hblk_⟩ : ∃ cs_, w18.heap[p]? = some (.cells cs_ 71 (0, 0)) := ⟨_, HT.out.row⟩
 refine (Set_some (TabAt.mono HT.out (ok' := fun k => ok k ∨ w18.heap.size ≤ k) (fun k h => .inl h)) (fun k h => .inr h) fd h0 hq s hs (⟨s0, s1, ⟨b0, m5⟩, s3⟩ : Slot) Be5 de5 (R_C HE5.out).2 (R_C HE5.out).1 200 (by rw [wcanS (⟨s0, s1, ⟨b0, m5⟩, s3⟩ : Slot) hl5, hcan]) (by show m5.length * 8 ≤ _; omega)).mono ?_
 rintro e w21 ⟨v, rfl, ho, ⟨q3, hT3⟩, hE⟩
 obtain ⟨Av, cv, rfl⟩ := Kd.R_slice ho
 refine ⟨_, rfl, ?_⟩
 have Sl_ : St w ok w18 [⟨g14, true, .cells #[.int .i64 kd, .int .i64 fd, .int .i64 s0, .int .u32 s1, .bool b0, .slice Be5 m5.length de5, .int .i64 s3, .slice Be7 m7.length de7] 30 (0, 0)⟩, ⟨g1, true, .cells #[.int .i64 kd, .int .i64 fd, .int .i64 s0, .int .u32 s1, .bool b0, .slice Ba5 m5.length da5, .int .i64 s3, .slice Ba7 m7.length da7] 30 (0, 0)⟩, ⟨ad.block, false, ob⟩] := S19
 have S22 := Sl_.callX hE (fun x_ hx_ e_ => by simp only [List.mem_cons, List.not_mem_nil, or_false] at hx_; rcases hx_ with rfl | rfl | rfl; all_goals ((try dsimp only at e_); omega)) (fun k_ h1_ h2_ => by (try dsimp only at h2_); rw [h2_]; exact hI.T.low.2.2.2)
 replace HA5 := rx HA5 hE hblk_
 replace HA7 := rx HA7 hE hblk_
 replace HE5 := rx HE5 hE hblk_
 replace HE7 := rx HE7 hE hblk_
 replace HL := Aside0.mk (Kd.V_step HL.out (fun k_ hk_ hl_ => hE.block k_ hl_ (fun e_ => by (try dsimp only at e_); rw [e_] at hk_; exact hI.D _ hI.T.low.2.2.2 hk_)))
 replace HR := Aside0.mk (Kd.V_step HR.out (fun k_ hk_ hl_ => hE.block k_ hl_ (fun e_ => by (try dsimp only at e_); rw [e_] at hk_; exact hI.D _ hI.T.low.2.2.2 hk_)))
 have hw2_ := hE.size
 clear HT
 have HT := Aside0.mk hT3.bound
 have HZ := Aside0.mk (Nat.le_refl w21.heap.size)
 have hokb : ∀ k, ((ok k ∨ w18.heap.size ≤ k) ∧ k < w21.heap.size) → k < w.heap.size ∨ (w18.heap.size ≤ k ∧ k < w21.heap.size) := fun k h => h.1.elim (fun h1 => .inl (hI.okN k h1)) (fun h1 => .inr ⟨h1, h.2⟩)
 clear hE hblk_ hT3
 have HW := Aside0.mk ho
 clear ho
 refine qv (v := .tuple #[.agg #[.int .i64 s.f0, .int .u32 s.f1, .bool s.f2.f0, .slice Av s.f2.f1.length cv, .int .i64 s.f3], .bool true, .int .i64 0]) (r_move rfl) ?_
 refine qv (v := .agg #[.int .i64 s.f0, .int .u32 s.f1, .bool s.f2.f0, .slice Av s.f2.f1.length cv, .int .i64 s.f3]) (r_extract rfl rfl) ?_
 refine qv (v := .bool true) (r_extract rfl rfl) ?_
 refine qv (v := .int .i64 0) (r_extract rfl rfl) ?_
 refine qo ?_
 refine e_alloc S22 zro_28 ?_
 intro g23 w24 hg23 S25 B26
 have zag23 : w21.heap.size ≤ g23 := by have h_ := HZ.out; omega
 replace HA5 := rb HA5 B26
 replace HA7 := rb HA7 B26
 replace HE5 := rb HE5 B26
 replace HE7 := rb HE7 B26
 replace HW := rb HW B26
 replace HT := tb HT B26
 replace HL := vb HL B26
 replace HR := vb HR B26
 replace HZ := zb HZ B26
 refine qo ?_
 refine e_store (vs := [.int .i64 s.f0, .int .u32 s.f1, .bool s.f2.f0, .slice Av s.f2.f1.length cv, .int .i64 s.f3]) (cs' := [.int .i64 s.f0, .int .u32 s.f1, .bool s.f2.f0, .slice Av s.f2.f1.length cv, .int .i64 s.f3]) S25 rfl rfl rfl rfl sz_28 0 rfl (.inl rfl) rfl rfl rfl ?_
 intro w27 S28 E29
 replace HA5 := rx HA5 E29 (S25.blk 0 rfl)
 replace HA7 := rx HA7 E29 (S25.blk 0 rfl)
 replace HE5 := rx HE5 E29 (S25.blk 0 rfl)
 replace HE7 := rx HE7 E29 (S25.blk 0 rfl)
 replace HW := rx HW E29 (S25.blk 0 rfl)
 replace HT := Aside0.mk (HT.out.move (fun k_ hk_ hl_ => E29.block k_ hl_ (fun e_ => by have o_ := S25.own _ (List.mem_of_getElem? (i := 0) rfl) rfl; try dsimp only at o_ e_; have b_ := hokb k_ hk_; omega)))
 replace HL := Aside0.mk (Kd.V_step HL.out (fun k_ hk_ hl_ => E29.block k_ hl_ (fun e_ => by have o_ := S25.own _ (List.mem_of_getElem? (i := 0) rfl) rfl; try dsimp only at o_ e_; have b_ := hI.PN k_ hk_; omega)))
 replace HR := Aside0.mk (Kd.V_step HR.out (fun k_ hk_ hl_ => E29.block k_ hl_ (fun e_ => by have o_ := S25.own _ (List.mem_of_getElem? (i := 0) rfl) rfl; try dsimp only at o_ e_; have b_ := hI.PN k_ hk_; omega)))
 replace HZ := Aside0.mk (Nat.le_trans HZ.out E29.size)
 refine qv (v := .bool true) (r_assign rfl) ?_
 refine qv (v := .int .i64 0) (r_assign rfl) ?_
 refine q_nil ?_
 refine x_seq ?_
 refine s_seq ?_
 refine s_seq ?_
 refine s_region ?_
 refine qv (v := .pointer (some ⟨g1, 2, none⟩)) (r_field fld_30_2 rfl rfl) ?_
 refine qv (v := .agg #[.int .i64 s0, .int .u32 s1, .bool b0, .slice Ba5 m5.length da5, .int .i64 s3]) (r_loadN (vs := [.int .i64 s0, .int .u32 s1, .bool b0, .slice Ba5 m5.length da5, .int .i64 s3]) sz_28 rfl (S28.blk 2 rfl) rfl rfl) ?_
 refine qo ?_
 refine e_call (args := [.agg #[.int .i64 s0, .int .u32 s1, .bool b0, .slice Ba5 m5.length da5, .int .i64 s3]]) Try.func9 (by kernel_rfl) rfl rfl ?_
 refine (purlieuref13_Can.calls 200 s0 s1 b0 Ba5 da5 m5 s3 true _ (R_C HA5.out).2 (R_C HA5.out).1 (by rw [rcanS (⟨s0, s1, ⟨b0, m5⟩, s3⟩ : Slot) hl5, hcan])).mono ?_
 rintro e w30 ⟨rfl, hb⟩
 refine ⟨_, rfl, ?_⟩
 have B31 := hb
 have S32 := S28.call B31
 replace HA5 := rb HA5 B31
 replace HA7 := rb HA7 B31
 replace HE5 := rb HE5 B31
 replace HE7 := rb HE7 B31
 replace HW := rb HW B31
 replace HT := tb HT B31
 replace HL := vb HL B31
 replace HR := vb HR B31
 replace HZ := zb HZ B31
 refine qv (v := .bool false) (r_not rfl rfl) ?_
 refine q_nil ?_
 refine x_seq ?_
 refine s_false rfl ?_
 refine s_skip ?_
 refine x_seq ?_
 refine s_seq ?_
 refine s_seq ?_
 refine s_region ?_
 refine qv (v := .pointer (some ⟨g1, 1, none⟩)) (r_field fld_30_1 rfl rfl) ?_
 refine qv (v := .int .i64 fd) (r_load1 sz_3 rfl (S32.cell 2 rfl rfl)) ?_
 refine qv (v := .bool false) (r_lss rfl rfl (decide_eq_false (by omega))) ?_
 refine qv (v := .bool false) (r_move rfl) ?_
 refine q_val (v := .pointer (some ⟨g1, 1, none⟩)) (wan rfl rfl rfl rfl) rfl (r_field fld_30_1 rfl rfl) ?_
 refine q_val (v := .int .i64 fd) (wan rfl rfl rfl rfl) rfl (r_load1 sz_3 rfl (S32.cell 2 rfl rfl)) ?_
 refine q_val (v := .slice (some ad) ((ls ss).length) c) (wan rfl rfl rfl rfl) rfl (r_move rfl) ?_
 refine q_val (v := .int .i64 (((ls ss).length : Nat) : Int)) (wan rfl rfl rfl rfl) rfl (r_len_slice elm_47 rfl) ?_
 refine q_val (v := .bool false) (wan rfl rfl rfl rfl) rfl (r_geq rfl rfl (decide_eq_false (by omega))) ?_
 refine qv (v := .bool false) (r_pick_f rfl rfl) ?_
 refine q_nil ?_
 refine x_seq ?_
 refine s_false rfl ?_
 refine s_skip ?_
 refine x_seq ?_
 refine s_seq ?_
 refine d_start mix (fun W => St w (ok) W [⟨g23, true, .cells #[.int .i64 s.f0, .int .u32 s.f1, .bool s.f2.f0, .slice Av s.f2.f1.length cv, .int .i64 s.f3] 28 (0, 0)⟩, ⟨g14, true, .cells #[.int .i64 kd, .int .i64 fd, .int .i64 s0, .int .u32 s1, .bool b0, .slice Be5 m5.length de5, .int .i64 s3, .slice Be7 m7.length de7] 30 (0, 0)⟩, ⟨g1, true, .cells #[.int .i64 kd, .int .i64 fd, .int .i64 s0, .int .u32 s1, .bool b0, .slice Ba5 m5.length da5, .int .i64 s3, .slice Ba7 m7.length da7] 30 (0, 0)⟩, ⟨ad.block, false, ob⟩]) ?_
 have S33 := S32.draw
 have B35 := Below_drew w30
 generalize w30.drew = w34 at S33 B35 ⊢
 replace HA5 := rb HA5 B35
 replace HA7 := rb HA7 B35
 replace HE5 := rb HE5 B35
 replace HE7 := rb HE7 B35
 replace HW := rb HW B35
 replace HT := tb HT B35
 replace HL := vb HL B35
 replace HR := vb HR B35
 replace HZ := zb HZ B35
 refine dt 30 1 (v := .slice (some ad) ((ls ss).length) c) 0 rfl rfl (wn rfl) (fun W hW => r_move rfl) S33 ?_
 refine dt 30 3 (v := .pointer (some ⟨g1, 1, none⟩)) 1 rfl rfl (wn rfl) (fun W hW => r_field fld_30_1 rfl rfl) S33 ?_
 refine dt 30 7 (v := .int .i64 fd) 2 rfl rfl (wn rfl) (fun W hW => r_load1 sz_3 rfl (hW.cell 2 rfl rfl)) S33 ?_
 refine dt 30 15 (v := .pointer (some ⟨g1, 2, none⟩)) 3 rfl rfl (wn rfl) (fun W hW => r_field fld_30_2 rfl rfl) S33 ?_
 refine dt 30 31 (v := .agg #[.int .i64 s0, .int .u32 s1, .bool b0, .slice Ba5 m5.length da5, .int .i64 s3]) 4 rfl rfl (wn rfl) (fun W hW => r_loadN (vs := [.int .i64 s0, .int .u32 s1, .bool b0, .slice Ba5 m5.length da5, .int .i64 s3]) sz_28 rfl (hW.blk 2 rfl) rfl rfl) S33 ?_
 refine dt 30 95 (v := .int .i64 0) 6 rfl rfl (wn rfl) (fun W hW => r_move rfl) S33 ?_
 refine dt 30 223 (v := .bool true) 7 rfl rfl (wn rfl) (fun W hW => r_eql rfl rfl (beq_t (by omega))) S33 ?_
 refine d1 30 255 5 rfl (wn rfl) ?_
 refine e_call (args := [.slice (some ad) ((ls ss).length) c, .int .i64 fd, .agg #[.int .i64 s0, .int .u32 s1, .bool b0, .slice Ba5 m5.length da5, .int .i64 s3]]) Try.func44 (by kernel_rfl) rfl rfl ?_
 have hV_ := (Kd.R_V (base' := 0) HA5.out)
 have hz3_ := HZ.out
 refine (With_ls HL.out (by omega) fd h0 (by omega) (some (⟨s0, s1, ⟨b0, m5⟩, s3⟩ : Slot)) hV_).mono ?_
 rintro e w36 ⟨ad2, c2, rfl, hL2, hb⟩
 refine ⟨_, rfl, ?_⟩
 have B37 := hb
 have S38 := S33.call B37
 replace HA5 := rb HA5 B37
 replace HA7 := rb HA7 B37
 replace HE5 := rb HE5 B37
 replace HE7 := rb HE7 B37
 replace HW := rb HW B37
 replace HT := tb HT B37
 replace HL := vb HL B37
 replace HR := vb HR B37
 replace HZ := zb HZ B37
 have HL2 := Aside0.mk hL2
 refine ⟨S38, ?_⟩
 refine dt 30 511 (v := .bool true) 8 rfl rfl (wn rfl) (fun W hW => r_move rfl) S38 ?_
 refine dt 30 1023 (v := .bool true) 9 rfl rfl (wan rfl rfl rfl rfl) (fun W hW => r_move rfl) S38 ?_
 refine dt 30 2047 (v := .slice (some ad) ((ls ss).length) c) 10 rfl rfl (wan rfl rfl rfl rfl) (fun W hW => r_move rfl) S38 ?_
 refine dt 30 4095 (v := .pointer (some ⟨g1, 1, none⟩)) 11 rfl rfl (wan rfl rfl rfl rfl) (fun W hW => r_field fld_30_1 rfl rfl) S38 ?_
 refine dt 30 8191 (v := .int .i64 fd) 12 rfl rfl (wan rfl rfl rfl rfl) (fun W hW => r_load1 sz_3 rfl (hW.cell 2 rfl rfl)) S38 ?_
 refine dt 30 16383 (v := .pointer (some (ad.add (fd.toNat * 5)))) 13 rfl rfl (wan rfl rfl rfl rfl) (fun W hW => r_indexA elm_47 rfl rfl (by omega) (by omega) rfl) S38 ?_
 refine dt 30 32767 (v := .pointer (some (ad.add (fd.toNat * 5)))) 14 rfl rfl (wan rfl rfl rfl rfl) (fun W hW => r_fieldA fld_28_0 rfl rfl) S38 ?_
 refine dt 30 65535 (v := .int .i64 ((toS (some s)).f0)) 15 rfl rfl (wan rfl rfl rfl rfl) (fun W hW => r_load1A sz_3 rfl (cells_raw (vs := [.int .i64 ((toS (some s)).f0), .int .u32 ((toS (some s)).f1), .bool ((toS (some s)).f2.f0), .slice A3 ((toS (some s)).f2.f1.length) c3, .int .i64 ((toS (some s)).f3)]) rfl hob (hW.blk 3 rfl) hcell) rfl) S38 ?_
 refine dt 30 131071 (v := .bool true) 16 rfl rfl (wan rfl rfl rfl rfl) (fun W hW => r_gtr rfl rfl (decide_eq_true ((hI.G _ _ hs).pos))) S38 ?_
 refine dt 30 262143 (v := .bool true) 17 rfl rfl (wan rfl rfl rfl rfl) (fun W hW => r_beql bol_4 rfl rfl rfl) S38 ?_
 refine dt 30 524287 (v := .bool true) 18 rfl rfl (wn rfl) (fun W hW => r_pick_t rfl rfl) S38 ?_
 refine dt 30 1048575 (v := .bool true) 19 rfl rfl (wn rfl) (fun W hW => r_move rfl) S38 ?_
 refine dt 30 2097151 (v := .agg #[.int .i64 s.f0, .int .u32 s.f1, .bool s.f2.f0, .slice Av s.f2.f1.length cv, .int .i64 s.f3]) 20 rfl rfl (wan rfl rfl rfl rfl) (fun W hW => r_loadN (vs := [.int .i64 s.f0, .int .u32 s.f1, .bool s.f2.f0, .slice Av s.f2.f1.length cv, .int .i64 s.f3]) sz_28 rfl (hW.blk 0 rfl) rfl rfl) S38 ?_
 refine dt 30 4194303 (v := .slice (some ad) ((ls ss).length) c) 21 rfl rfl (wan rfl rfl rfl rfl) (fun W hW => r_move rfl) S38 ?_
 refine dt 30 8388607 (v := .pointer (some ⟨g1, 1, none⟩)) 22 rfl rfl (wan rfl rfl rfl rfl) (fun W hW => r_field fld_30_1 rfl rfl) S38 ?_
 refine dt 30 16777215 (v := .int .i64 fd) 23 rfl rfl (wan rfl rfl rfl rfl) (fun W hW => r_load1 sz_3 rfl (hW.cell 2 rfl rfl)) S38 ?_
 refine dt 30 33554431 (v := .pointer (some (ad.add (fd.toNat * 5)))) 24 rfl rfl (wan rfl rfl rfl rfl) (fun W hW => r_indexA elm_47 rfl rfl (by omega) (by omega) rfl) S38 ?_
 refine dt 30 67108863 (v := .agg #[.int .i64 ((toS (some s)).f0), .int .u32 ((toS (some s)).f1), .bool ((toS (some s)).f2.f0), .slice A3 ((toS (some s)).f2.f1.length) c3, .int .i64 ((toS (some s)).f3)]) 25 rfl rfl (wan rfl rfl rfl rfl) (fun W hW => r_loadNA sz_28 rfl rfl (cells_raw (vs := [.int .i64 ((toS (some s)).f0), .int .u32 ((toS (some s)).f1), .bool ((toS (some s)).f2.f0), .slice A3 ((toS (some s)).f2.f1.length) c3, .int .i64 ((toS (some s)).f3)]) rfl hob (hW.blk 3 rfl) hcell)) S38 ?_
 refine d1 30 134217727 26 rfl (wan rfl rfl rfl rfl) ?_
 refine e_call (args := [.agg #[.int .i64 s.f0, .int .u32 s.f1, .bool s.f2.f0, .slice Av s.f2.f1.length cv, .int .i64 s.f3], .agg #[.int .i64 ((toS (some s)).f0), .int .u32 ((toS (some s)).f1), .bool ((toS (some s)).f2.f0), .slice A3 ((toS (some s)).f2.f1.length) c3, .int .i64 ((toS (some s)).f3)]]) Try.func18 (by kernel_rfl) rfl rfl ?_
 obtain ⟨ko, hko⟩ := one_same s (by have hgl_ := (hI.G _ _ hs).len; show s.f2.f1.length ≤ _; omega)
 refine (purlieuref13_One.calls ko s.f0 s.f1 s.f2.f0 Av cv s.f2.f1 s.f3 s.f0 s.f1 s.f2.f0 A3 c3 s.f2.f1 s.f3 true _ (R_C HW.out).2 (R_C HW.out).1 (Kd.V_reads' HR.out).2.2 (Kd.V_reads' HR.out).2.1 hko).mono ?_
 rintro e w39 ⟨rfl, hb⟩
 refine ⟨_, rfl, ?_⟩
 have B40 := hb
 have S41 := S38.call B40
 replace HA5 := rb HA5 B40
 replace HA7 := rb HA7 B40
 replace HE5 := rb HE5 B40
 replace HE7 := rb HE7 B40
 replace HW := rb HW B40
 replace HT := tb HT B40
 replace HL := vb HL B40
 replace HR := vb HR B40
 replace HL2 := vb HL2 B40
 replace HZ := zb HZ B40
 refine ⟨S41, ?_⟩
 refine dt 30 268435455 (v := .bool true) 27 rfl rfl (wn rfl) (fun W hW => r_pick_t rfl rfl) S41 ?_
 refine dt 30 536870911 (v := .slice (some ad2) ((ls (ss.set fd.toNat (some (⟨s0, s1, ⟨b0, m5⟩, s3⟩ : Slot)))).length) c2) 28 rfl rfl (wn rfl) (fun W hW => r_assign rfl) S41 ?_
 refine dt 30 1073741823 (v := .bool true) 29 rfl rfl (wn rfl) (fun W hW => r_assign rfl) S41 ?_
 refine d_done (by kernel_rfl) ?_
 refine x_seq ?_
 refine s_ret ?_
 refine x_blk_ret ?_
 refine x_seq_ret ?_
 refine t_ret2 (v := .slice (some ad2) ((ls (ss.set fd.toNat (some (⟨s0, s1, ⟨b0, m5⟩, s3⟩ : Slot)))).length) c2) (v' := .bool true) rfl rfl rfl ?_
 exact post_new hI S41.ext HT.out HL2.out (by simp) (hI.G.set _ (fun s_ h_ => by obtain rfl := Option.some.inj h_; exact good_can hcan hs1 hl5)) w18.heap.size w21.heap.size hw1_ hw2_ (fun k_ h_ hl_ => h_.1.elim .inl (fun h2 => .inr ⟨h2, h_.2⟩)) (fun k_ h_ hl_ => by rcases h_ with (h_ | h_) | h_ <;> first | exact .inl h_ | (right; left; omega) | (right; right; omega))
end Go.Proofs.Ytilfalpfanaanaa.PA

namespace Go.Proofs.Ytilfalpfanaanaa.PA
open Go.RowKit Go.Proofs.YtilfalpfanaanaaW.PrintWords Go.Proofs.YtilfalpfanaanaaW.PrintLast Go.Proofs.YtilfalpfanaanaaW.PrintMore Go.Proofs.Ytilfalpfanaanaa.Sx
set_option maxHeartbeats 8000000 in
set_option maxRecDepth 100000 in
theorem Does_take_ok {w : World} {b g p : Nat} {ok : Nat → Prop} {qs : List (Option Nat)} {ss : List (Option Slot)} {P : Nat → Prop} {ad : Addr} {c : Nat} (hI : DInv w b g p ok qs ss P ad c) (kd fd s0 s1 : Int) (b0 : Bool) (A5 : Option Addr) (c5 : Nat) (l5 : List Int) (s3 : Int) (A7 : Option Addr) (c7 : Nat) (l7 : List Int) (hr5 : Kd.C (Kd.int .i64) w A5 l5.length l5) (hc5 : l5.length ≤ c5) (hr7 : Kd.C (Kd.int .i64) w A7 l7.length l7) (hc7 : l7.length ≤ c7) (hk : kd = 2) (h0 : 0 ≤ fd) {s : Slot} (hs : ss[fd.toNat]? = some (some s)) {q : Nat} (hq : qs[fd.toNat]? = some (some q)) : Calls Try.prog 19 #[.pointer (some ⟨g, 0, none⟩), .slice (some ad) ((ls ss).length) c, .agg #[.int .i64 kd, .int .i64 fd, .int .i64 s0, .int .u32 s1, .bool b0, .slice A5 l5.length c5, .int .i64 s3, .slice A7 l7.length c7]] w (Post w b g p ok ss.length P) := by
 have HT := Aside0.mk hI.T
 have HL := Aside0.mk hI.L
 have hll := ls_len ss
 have hfew := hI.few
 have hqs := hI.T.len
 obtain ⟨ob, hob⟩ := LV_ob hI.L (by omega)
 obtain ⟨A3, c3, hcell, h3, hF⟩ := LV_at hI.L h0 hs
 have HR := Aside0.mk (show Kd.V (Kd.int .i64) 3 w 0 P (.slice A3 (toS (some s)).f2.f1.length c3) (toS (some s)).f2.f1 from Kd.V_mk h3 hF)
 have S0 := St.add (St.start w ok) hob (fun x hx => by cases hx)
 refine s_enter (n := 233) (L := [(0, .pointer (some ⟨g, 0, none⟩)), (1, .slice (some ad) ((ls ss).length) c), (2, .agg #[.int .i64 kd, .int .i64 fd, .int .i64 s0, .int .u32 s1, .bool b0, .slice A5 l5.length c5, .int .i64 s3, .slice A7 l7.length c7])]) Try.func19 rfl rfl rfl rfl ?_
 refine s_seq ?_
 refine s_region ?_
 refine qo ?_
 refine e_box (cs := [.int .i64 kd, .int .i64 fd, .int .i64 s0, .int .u32 s1, .bool b0, .slice A5 l5.length c5, .int .i64 s3, .slice A7 l7.length c7]) S0 rfl rfl ?_
 intro g1 w2 hg1 S3 B4
 replace HT := tb HT B4
 replace HL := vb HL B4
 replace HR := vb HR B4
 refine qv (v := .slice none 0 0) (r_assign rfl) ?_
 refine qv (v := .bool false) (r_assign rfl) ?_
 refine q_nil ?_
 refine x_seq ?_
 refine s_seq ?_
 refine s_region ?_
 refine qv (v := .agg #[.int .i64 kd, .int .i64 fd, .int .i64 s0, .int .u32 s1, .bool b0, .slice A5 l5.length c5, .int .i64 s3, .slice A7 l7.length c7]) (r_loadN (vs := [.int .i64 kd, .int .i64 fd, .int .i64 s0, .int .u32 s1, .bool b0, .slice A5 l5.length c5, .int .i64 s3, .slice A7 l7.length c7]) sz_30 rfl (S3.blk 0 rfl) rfl rfl) ?_
 refine qo ?_
 refine e_call (args := [.agg #[.int .i64 kd, .int .i64 fd, .int .i64 s0, .int .u32 s1, .bool b0, .slice A5 l5.length c5, .int .i64 s3, .slice A7 l7.length c7]]) Try.func13 (by kernel_rfl) rfl rfl ?_
 refine (own_cut kd fd s0 s1 b0 A5 c5 l5 s3 A7 c7 l7 _ (Kd.C_below hr5 B4) hc5 (Kd.C_below hr7 B4) hc7).mono ?_
 rintro e w5 ⟨m5, m7, Ba5, da5, Ba7, da7, ⟨hm5, hm7⟩, hl5, hl7, rfl, ho5, ho7, hb⟩
 refine ⟨_, rfl, ?_⟩
 have B6 := hb
 have S7 := S3.call B6
 replace HT := tb HT B6
 replace HL := vb HL B6
 replace HR := vb HR B6
 have HA5 := Aside0.mk ho5
 have HA7 := Aside0.mk ho7
 clear ho5 ho7
 have HBa := S3.ext.size
 have hlt := get_lt hs
 refine qo ?_
 refine e_store (vs := [.int .i64 kd, .int .i64 fd, .int .i64 s0, .int .u32 s1, .bool b0, .slice Ba5 m5.length da5, .int .i64 s3, .slice Ba7 m7.length da7]) (cs' := [.int .i64 kd, .int .i64 fd, .int .i64 s0, .int .u32 s1, .bool b0, .slice Ba5 m5.length da5, .int .i64 s3, .slice Ba7 m7.length da7]) S7 rfl rfl rfl rfl sz_30 0 rfl (.inl rfl) rfl rfl rfl ?_
 intro w8 S9 E10
 replace HA5 := rx HA5 E10 (S7.blk 0 rfl)
 replace HA7 := rx HA7 E10 (S7.blk 0 rfl)
 replace HT := Aside0.mk (HT.out.move (fun k_ hk_ hl_ => E10.block k_ hl_ (fun e_ => by have o_ := S7.own _ (List.mem_of_getElem? (i := 0) rfl) rfl; try dsimp only at o_ e_; have b_ := hI.okN k_ hk_; omega)))
 replace HL := Aside0.mk (Kd.V_step HL.out (fun k_ hk_ hl_ => E10.block k_ hl_ (fun e_ => by have o_ := S7.own _ (List.mem_of_getElem? (i := 0) rfl) rfl; try dsimp only at o_ e_; have b_ := hI.PN k_ hk_; omega)))
 replace HR := Aside0.mk (Kd.V_step HR.out (fun k_ hk_ hl_ => E10.block k_ hl_ (fun e_ => by have o_ := S7.own _ (List.mem_of_getElem? (i := 0) rfl) rfl; try dsimp only at o_ e_; have b_ := hI.PN k_ hk_; omega)))
 refine q_nil ?_
 refine x_seq ?_
 refine s_seq ?_
 refine s_region ?_
 refine qv (v := .agg #[.int .i64 kd, .int .i64 fd, .int .i64 s0, .int .u32 s1, .bool b0, .slice Ba5 m5.length da5, .int .i64 s3, .slice Ba7 m7.length da7]) (r_loadN (vs := [.int .i64 kd, .int .i64 fd, .int .i64 s0, .int .u32 s1, .bool b0, .slice Ba5 m5.length da5, .int .i64 s3, .slice Ba7 m7.length da7]) sz_30 rfl (S9.blk 0 rfl) rfl rfl) ?_
 refine qo ?_
 refine e_call (args := [.agg #[.int .i64 kd, .int .i64 fd, .int .i64 s0, .int .u32 s1, .bool b0, .slice Ba5 m5.length da5, .int .i64 s3, .slice Ba7 m7.length da7]]) Try.func13 (by kernel_rfl) rfl rfl ?_
 refine (own_same kd fd s0 s1 b0 Ba5 da5 m5 s3 Ba7 da7 m7 _ (R_C HA5.out).2 (R_C HA5.out).1 (R_C HA7.out).2 (R_C HA7.out).1 hl5 hl7).mono ?_
 rintro e w11 ⟨Be5, de5, Be7, de7, rfl, ho5, ho7, hb⟩
 refine ⟨_, rfl, ?_⟩
 have B12 := hb
 have S13 := S9.call B12
 replace HA5 := rb HA5 B12
 replace HA7 := rb HA7 B12
 replace HT := tb HT B12
 replace HL := vb HL B12
 replace HR := vb HR B12
 have HE5 := Aside0.mk ho5
 have HE7 := Aside0.mk ho7
 clear ho5 ho7
 refine qo ?_
 refine e_alloc S13 zro_30 ?_
 intro g14 w15 hg14 S16 B17
 replace HA5 := rb HA5 B17
 replace HA7 := rb HA7 B17
 replace HE5 := rb HE5 B17
 replace HE7 := rb HE7 B17
 replace HT := tb HT B17
 replace HL := vb HL B17
 replace HR := vb HR B17
 refine qo ?_
 refine e_store (vs := [.int .i64 kd, .int .i64 fd, .int .i64 s0, .int .u32 s1, .bool b0, .slice Be5 m5.length de5, .int .i64 s3, .slice Be7 m7.length de7]) (cs' := [.int .i64 kd, .int .i64 fd, .int .i64 s0, .int .u32 s1, .bool b0, .slice Be5 m5.length de5, .int .i64 s3, .slice Be7 m7.length de7]) S16 rfl rfl rfl rfl sz_30 0 rfl (.inl rfl) rfl rfl rfl ?_
 intro w18 S19 E20
 replace HA5 := rx HA5 E20 (S16.blk 0 rfl)
 replace HA7 := rx HA7 E20 (S16.blk 0 rfl)
 replace HE5 := rx HE5 E20 (S16.blk 0 rfl)
 replace HE7 := rx HE7 E20 (S16.blk 0 rfl)
 replace HT := Aside0.mk (HT.out.move (fun k_ hk_ hl_ => E20.block k_ hl_ (fun e_ => by have o_ := S16.own _ (List.mem_of_getElem? (i := 0) rfl) rfl; try dsimp only at o_ e_; have b_ := hI.okN k_ hk_; omega)))
 replace HL := Aside0.mk (Kd.V_step HL.out (fun k_ hk_ hl_ => E20.block k_ hl_ (fun e_ => by have o_ := S16.own _ (List.mem_of_getElem? (i := 0) rfl) rfl; try dsimp only at o_ e_; have b_ := hI.PN k_ hk_; omega)))
 replace HR := Aside0.mk (Kd.V_step HR.out (fun k_ hk_ hl_ => E20.block k_ hl_ (fun e_ => by have o_ := S16.own _ (List.mem_of_getElem? (i := 0) rfl) rfl; try dsimp only at o_ e_; have b_ := hI.PN k_ hk_; omega)))
 refine q_nil ?_
 refine x_seq ?_
 refine s_seq ?_
 refine s_seq ?_
 refine s_region ?_
 refine qv (v := .pointer (some ⟨g1, 0, none⟩)) (r_field fld_30_0 rfl rfl) ?_
 refine qv (v := .int .i64 kd) (r_load1 sz_3 rfl (S19.cell 1 rfl rfl)) ?_
 refine q_nil ?_
 refine x_seq ?_
 refine s_block ?_
 refine s_seq ?_
 refine s_region ?_
 refine qv (v := .bool false) (r_eql rfl rfl (beq_f (by omega))) ?_
 refine qv (v := .bool false) (r_assign rfl) ?_
 refine q_nil ?_
 refine x_seq ?_
 refine s_false rfl ?_
 refine s_seq ?_
 refine s_region ?_
 refine qv (v := .bool true) (r_eql rfl rfl (beq_t (by omega))) ?_
 refine qv (v := .bool true) (r_assign rfl) ?_
 refine q_nil ?_
 refine x_seq ?_
 refine s_true rfl ?_
 refine s_seq ?_
 refine s_region ?_
 refine qv (v := .pointer (some ⟨g, 0, none⟩)) (r_move rfl) ?_
 refine qv (v := .pointer (some ⟨g14, 1, none⟩)) (r_field fld_30_1 rfl rfl) ?_
 refine qv (v := .int .i64 fd) (r_load1 sz_3 rfl (S19.cell 0 rfl rfl)) ?_
 refine qo ?_
 refine e_call (args := [.pointer (some ⟨g, 0, none⟩), .int .i64 fd]) Try.func30 (by kernel_rfl) rfl rfl ?_
 have zbg14 := heap_lt (S19.blk 0 rfl)
 have zog14 := S19.own _ (List.mem_of_getElem? (i := 0) rfl) rfl
 dsimp only at zbg14 zog14
 have zbg1 := heap_lt (S19.blk 1 rfl)
 have zog1 := S19.own _ (List.mem_of_getElem? (i := 1) rfl) rfl
 dsimp only at zbg1 zog1
 have zx_ := hI.okN _ hI.T.low.2.2.2
 have hw1_ := S19.ext.size
 have hne_ := LV_ne hI.L (by omega) hI.T.row
 replace HA5 := Aside0.mk (show Kd.R (Kd.int .i64) 3 w18 w2.heap.size (fun k_ => w2.heap.size ≤ k_ ∧ k_ < w18.heap.size) _ _ from Kd.R_mono (Kd.R_bound HA5.out) (fun k_ h_ => ⟨h_.2.1, h_.2.2.1⟩))
 obtain ⟨_, hblk_⟩ : ∃ cs_, w18.heap[p]? = some (.cells cs_ 71 (0, 0)) := ⟨_, HT.out.row⟩
 refine (Take_ok HT.out fd h0 hq s hs).mono ?_
 rintro e w21 ⟨v, rfl, ho, hT3, hE⟩
 obtain ⟨Av, cv, rfl⟩ := Kd.R_slice ho
 refine ⟨_, rfl, ?_⟩
 have Sl_ : St w ok w18 [⟨g14, true, .cells #[.int .i64 kd, .int .i64 fd, .int .i64 s0, .int .u32 s1, .bool b0, .slice Be5 m5.length de5, .int .i64 s3, .slice Be7 m7.length de7] 30 (0, 0)⟩, ⟨g1, true, .cells #[.int .i64 kd, .int .i64 fd, .int .i64 s0, .int .u32 s1, .bool b0, .slice Ba5 m5.length da5, .int .i64 s3, .slice Ba7 m7.length da7] 30 (0, 0)⟩, ⟨ad.block, false, ob⟩] := S19
 have S22 := Sl_.callX hE (fun x_ hx_ e_ => by simp only [List.mem_cons, List.not_mem_nil, or_false] at hx_; rcases hx_ with rfl | rfl | rfl; all_goals ((try dsimp only at e_); omega)) (fun k_ h1_ h2_ => by (try dsimp only at h2_); rw [h2_]; exact hI.T.low.2.2.2)
 replace HA5 := rx HA5 hE hblk_
 replace HA7 := rx HA7 hE hblk_
 replace HE5 := rx HE5 hE hblk_
 replace HE7 := rx HE7 hE hblk_
 replace HL := Aside0.mk (Kd.V_step HL.out (fun k_ hk_ hl_ => hE.block k_ hl_ (fun e_ => by (try dsimp only at e_); rw [e_] at hk_; exact hI.D _ hI.T.low.2.2.2 hk_)))
 replace HR := Aside0.mk (Kd.V_step HR.out (fun k_ hk_ hl_ => hE.block k_ hl_ (fun e_ => by (try dsimp only at e_); rw [e_] at hk_; exact hI.D _ hI.T.low.2.2.2 hk_)))
 have hw2_ := hE.size
 clear HT
 have HT := Aside0.mk hT3
 have HZ := Aside0.mk (Nat.le_refl w21.heap.size)
 clear hE hblk_ hT3
 have HW := Aside0.mk ho
 clear ho
 refine qv (v := .tuple #[.agg #[.int .i64 s.f0, .int .u32 s.f1, .bool s.f2.f0, .slice Av s.f2.f1.length cv, .int .i64 s.f3], .int .i64 0]) (r_move rfl) ?_
 refine qv (v := .agg #[.int .i64 s.f0, .int .u32 s.f1, .bool s.f2.f0, .slice Av s.f2.f1.length cv, .int .i64 s.f3]) (r_extract rfl rfl) ?_
 refine qv (v := .int .i64 0) (r_extract rfl rfl) ?_
 refine qo ?_
 refine e_alloc S22 zro_28 ?_
 intro g23 w24 hg23 S25 B26
 have zag23 : w21.heap.size ≤ g23 := by have h_ := HZ.out; omega
 replace HA5 := rb HA5 B26
 replace HA7 := rb HA7 B26
 replace HE5 := rb HE5 B26
 replace HE7 := rb HE7 B26
 replace HW := rb HW B26
 replace HT := tb HT B26
 replace HL := vb HL B26
 replace HR := vb HR B26
 replace HZ := zb HZ B26
 refine qo ?_
 refine e_store (vs := [.int .i64 s.f0, .int .u32 s.f1, .bool s.f2.f0, .slice Av s.f2.f1.length cv, .int .i64 s.f3]) (cs' := [.int .i64 s.f0, .int .u32 s.f1, .bool s.f2.f0, .slice Av s.f2.f1.length cv, .int .i64 s.f3]) S25 rfl rfl rfl rfl sz_28 0 rfl (.inl rfl) rfl rfl rfl ?_
 intro w27 S28 E29
 replace HA5 := rx HA5 E29 (S25.blk 0 rfl)
 replace HA7 := rx HA7 E29 (S25.blk 0 rfl)
 replace HE5 := rx HE5 E29 (S25.blk 0 rfl)
 replace HE7 := rx HE7 E29 (S25.blk 0 rfl)
 replace HW := rx HW E29 (S25.blk 0 rfl)
 replace HT := Aside0.mk (HT.out.move (fun k_ hk_ hl_ => E29.block k_ hl_ (fun e_ => by have o_ := S25.own _ (List.mem_of_getElem? (i := 0) rfl) rfl; try dsimp only at o_ e_; have b_ := hI.okN k_ hk_; omega)))
 replace HL := Aside0.mk (Kd.V_step HL.out (fun k_ hk_ hl_ => E29.block k_ hl_ (fun e_ => by have o_ := S25.own _ (List.mem_of_getElem? (i := 0) rfl) rfl; try dsimp only at o_ e_; have b_ := hI.PN k_ hk_; omega)))
 replace HR := Aside0.mk (Kd.V_step HR.out (fun k_ hk_ hl_ => E29.block k_ hl_ (fun e_ => by have o_ := S25.own _ (List.mem_of_getElem? (i := 0) rfl) rfl; try dsimp only at o_ e_; have b_ := hI.PN k_ hk_; omega)))
 replace HZ := Aside0.mk (Nat.le_trans HZ.out E29.size)
 refine qv (v := .int .i64 0) (r_assign rfl) ?_
 refine q_nil ?_
 refine x_seq ?_
 refine s_seq ?_
 refine s_region ?_
 refine qv (v := .slice (some ad) ((ls ss).length) c) (r_move rfl) ?_
 refine qv (v := .pointer (some ⟨g1, 1, none⟩)) (r_field fld_30_1 rfl rfl) ?_
 refine qv (v := .int .i64 fd) (r_load1 sz_3 rfl (S28.cell 2 rfl rfl)) ?_
 refine qo ?_
 refine e_call (args := [.slice (some ad) ((ls ss).length) c, .int .i64 fd, .int .u32 0]) Try.func20 (by kernel_rfl) rfl rfl ?_
 refine (purlieuref13_Get.calls 40 (some ad) c (ls ss) fd 0 0 _ (LV_C HL.out).1 (LV_C HL.out).2 (rget_zero ss hI.G fd h0 hs)).mono ?_
 rintro e w30 ⟨rfl, hd⟩
 refine ⟨_, rfl, ?_⟩
 have B31 := (Drawn0.below hd)
 have S32 := S28.call B31
 replace HA5 := rb HA5 B31
 replace HA7 := rb HA7 B31
 replace HE5 := rb HE5 B31
 replace HE7 := rb HE7 B31
 replace HW := rb HW B31
 replace HT := tb HT B31
 replace HL := vb HL B31
 replace HR := vb HR B31
 replace HZ := zb HZ B31
 refine qv (v := .int .i64 0) (r_assign rfl) ?_
 refine q_nil ?_
 refine x_seq ?_
 refine s_seq ?_
 refine s_seq ?_
 refine s_region ?_
 refine qv (v := .int .i64 0) (r_move rfl) ?_
 refine qv (v := .bool false) (r_neq rfl rfl (bne_f (by omega))) ?_
 refine q_nil ?_
 refine x_seq ?_
 refine s_false rfl ?_
 refine s_skip ?_
 refine x_seq ?_
 refine s_seq ?_
 refine d_start mix (fun W => St w (ok) W [⟨g23, true, .cells #[.int .i64 s.f0, .int .u32 s.f1, .bool s.f2.f0, .slice Av s.f2.f1.length cv, .int .i64 s.f3] 28 (0, 0)⟩, ⟨g14, true, .cells #[.int .i64 kd, .int .i64 fd, .int .i64 s0, .int .u32 s1, .bool b0, .slice Be5 m5.length de5, .int .i64 s3, .slice Be7 m7.length de7] 30 (0, 0)⟩, ⟨g1, true, .cells #[.int .i64 kd, .int .i64 fd, .int .i64 s0, .int .u32 s1, .bool b0, .slice Ba5 m5.length da5, .int .i64 s3, .slice Ba7 m7.length da7] 30 (0, 0)⟩, ⟨ad.block, false, ob⟩]) ?_
 have S33 := S32.draw
 have B35 := Below_drew w30
 generalize w30.drew = w34 at S33 B35 ⊢
 replace HA5 := rb HA5 B35
 replace HA7 := rb HA7 B35
 replace HE5 := rb HE5 B35
 replace HE7 := rb HE7 B35
 replace HW := rb HW B35
 replace HT := tb HT B35
 replace HL := vb HL B35
 replace HR := vb HR B35
 replace HZ := zb HZ B35
 refine dt 19 1 (v := .slice (some ad) ((ls ss).length) c) 0 rfl rfl (wn rfl) (fun W hW => r_move rfl) S33 ?_
 refine dt 19 3 (v := .pointer (some ⟨g1, 1, none⟩)) 1 rfl rfl (wn rfl) (fun W hW => r_field fld_30_1 rfl rfl) S33 ?_
 refine dt 19 7 (v := .int .i64 fd) 2 rfl rfl (wn rfl) (fun W hW => r_load1 sz_3 rfl (hW.cell 2 rfl rfl)) S33 ?_
 refine dt 19 15 (v := .agg #[.int .i64 0, .int .u32 0, .bool false, .slice none 0 0, .int .i64 0]) 3 rfl rfl (wn rfl) (fun W hW => r_build (ps := []) rfl (by kernel_rfl)) S33 ?_
 refine dt 19 47 (v := .int .i64 0) 5 rfl rfl (wn rfl) (fun W hW => r_move rfl) S33 ?_
 refine dt 19 111 (v := .int .i64 0) 6 rfl rfl (wn rfl) (fun W hW => r_move rfl) S33 ?_
 refine dt 19 239 (v := .bool true) 7 rfl rfl (wn rfl) (fun W hW => r_eql rfl rfl (beq_t (by omega))) S33 ?_
 refine d1 19 255 4 rfl (wn rfl) ?_
 refine e_call (args := [.slice (some ad) ((ls ss).length) c, .int .i64 fd, .agg #[.int .i64 0, .int .u32 0, .bool false, .slice none 0 0, .int .i64 0]]) Try.func44 (by kernel_rfl) rfl rfl ?_
 have hV_ := (Kd.V_nil (Kd.int .i64) 3 w34 0 P)
 have hz3_ := HZ.out
 refine (With_ls HL.out (by omega) fd h0 (by omega) none hV_).mono ?_
 rintro e w36 ⟨ad2, c2, rfl, hL2, hb⟩
 refine ⟨_, rfl, ?_⟩
 have B37 := hb
 have S38 := S33.call B37
 replace HA5 := rb HA5 B37
 replace HA7 := rb HA7 B37
 replace HE5 := rb HE5 B37
 replace HE7 := rb HE7 B37
 replace HW := rb HW B37
 replace HT := tb HT B37
 replace HL := vb HL B37
 replace HR := vb HR B37
 replace HZ := zb HZ B37
 have HL2 := Aside0.mk hL2
 refine ⟨S38, ?_⟩
 refine dt 19 511 (v := .bool true) 8 rfl rfl (wn rfl) (fun W hW => r_move rfl) S38 ?_
 refine dt 19 1023 (v := .agg #[.int .i64 s.f0, .int .u32 s.f1, .bool s.f2.f0, .slice Av s.f2.f1.length cv, .int .i64 s.f3]) 9 rfl rfl (wan rfl rfl rfl rfl) (fun W hW => r_loadN (vs := [.int .i64 s.f0, .int .u32 s.f1, .bool s.f2.f0, .slice Av s.f2.f1.length cv, .int .i64 s.f3]) sz_28 rfl (hW.blk 0 rfl) rfl rfl) S38 ?_
 refine dt 19 2047 (v := .slice (some ad) ((ls ss).length) c) 10 rfl rfl (wan rfl rfl rfl rfl) (fun W hW => r_move rfl) S38 ?_
 refine dt 19 4095 (v := .pointer (some ⟨g1, 1, none⟩)) 11 rfl rfl (wan rfl rfl rfl rfl) (fun W hW => r_field fld_30_1 rfl rfl) S38 ?_
 refine dt 19 8191 (v := .int .i64 fd) 12 rfl rfl (wan rfl rfl rfl rfl) (fun W hW => r_load1 sz_3 rfl (hW.cell 2 rfl rfl)) S38 ?_
 refine dt 19 16383 (v := .pointer (some (ad.add (fd.toNat * 5)))) 13 rfl rfl (wan rfl rfl rfl rfl) (fun W hW => r_indexA elm_47 rfl rfl (by omega) (by omega) rfl) S38 ?_
 refine dt 19 32767 (v := .agg #[.int .i64 ((toS (some s)).f0), .int .u32 ((toS (some s)).f1), .bool ((toS (some s)).f2.f0), .slice A3 ((toS (some s)).f2.f1.length) c3, .int .i64 ((toS (some s)).f3)]) 14 rfl rfl (wan rfl rfl rfl rfl) (fun W hW => r_loadNA sz_28 rfl rfl (cells_raw (vs := [.int .i64 ((toS (some s)).f0), .int .u32 ((toS (some s)).f1), .bool ((toS (some s)).f2.f0), .slice A3 ((toS (some s)).f2.f1.length) c3, .int .i64 ((toS (some s)).f3)]) rfl hob (hW.blk 3 rfl) hcell)) S38 ?_
 refine d1 19 65535 15 rfl (wan rfl rfl rfl rfl) ?_
 refine e_call (args := [.agg #[.int .i64 s.f0, .int .u32 s.f1, .bool s.f2.f0, .slice Av s.f2.f1.length cv, .int .i64 s.f3], .agg #[.int .i64 ((toS (some s)).f0), .int .u32 ((toS (some s)).f1), .bool ((toS (some s)).f2.f0), .slice A3 ((toS (some s)).f2.f1.length) c3, .int .i64 ((toS (some s)).f3)]]) Try.func18 (by kernel_rfl) rfl rfl ?_
 obtain ⟨ko, hko⟩ := one_same s (by have hgl_ := (hI.G _ _ hs).len; show s.f2.f1.length ≤ _; omega)
 refine (purlieuref13_One.calls ko s.f0 s.f1 s.f2.f0 Av cv s.f2.f1 s.f3 s.f0 s.f1 s.f2.f0 A3 c3 s.f2.f1 s.f3 true _ (R_C HW.out).2 (R_C HW.out).1 (Kd.V_reads' HR.out).2.2 (Kd.V_reads' HR.out).2.1 hko).mono ?_
 rintro e w39 ⟨rfl, hb⟩
 refine ⟨_, rfl, ?_⟩
 have B40 := hb
 have S41 := S38.call B40
 replace HA5 := rb HA5 B40
 replace HA7 := rb HA7 B40
 replace HE5 := rb HE5 B40
 replace HE7 := rb HE7 B40
 replace HW := rb HW B40
 replace HT := tb HT B40
 replace HL := vb HL B40
 replace HR := vb HR B40
 replace HL2 := vb HL2 B40
 replace HZ := zb HZ B40
 refine ⟨S41, ?_⟩
 refine dt 19 131071 (v := .bool true) 16 rfl rfl (wn rfl) (fun W hW => r_pick_t rfl rfl) S41 ?_
 refine dt 19 262143 (v := .slice (some ad2) ((ls (ss.set fd.toNat none)).length) c2) 17 rfl rfl (wn rfl) (fun W hW => r_assign rfl) S41 ?_
 refine dt 19 524287 (v := .bool true) 18 rfl rfl (wn rfl) (fun W hW => r_assign rfl) S41 ?_
 refine d_done (by kernel_rfl) ?_
 refine x_seq ?_
 refine s_ret ?_
 refine x_blk_ret ?_
 refine x_seq_ret ?_
 refine t_ret2 (v := .slice (some ad2) ((ls (ss.set fd.toNat none)).length) c2) (v' := .bool true) rfl rfl rfl ?_
 exact post_new hI S41.ext HT.out HL2.out (by simp) (hI.G.set _ (fun s_ h_ => by cases h_)) w.heap.size w.heap.size (Nat.le_refl _) (Nat.le_refl _) (fun k_ h_ hl_ => .inl h_) (fun k_ h_ hl_ => by rcases h_ with (h_ | h_) | h_ <;> first | exact .inl h_ | (right; right; omega))
end Go.Proofs.Ytilfalpfanaanaa.PA

namespace Go.Proofs.Ytilfalpfanaanaa.PA
open Go.RowKit Go.Proofs.YtilfalpfanaanaaW.PrintWords Go.Proofs.YtilfalpfanaanaaW.PrintLast Go.Proofs.YtilfalpfanaanaaW.PrintMore Go.Proofs.Ytilfalpfanaanaa.Sx
set_option maxHeartbeats 8000000 in
set_option maxRecDepth 100000 in
theorem Does_Limit_ok {w : World} {b g p : Nat} {ok : Nat → Prop} {qs : List (Option Nat)} {ss : List (Option Slot)} {P : Nat → Prop} {ad : Addr} {c : Nat} (hI : DInv w b g p ok qs ss P ad c) (kd fd s0 s1 : Int) (b0 : Bool) (A5 : Option Addr) (c5 : Nat) (l5 : List Int) (s3 : Int) (A7 : Option Addr) (c7 : Nat) (l7 : List Int) (hr5 : Kd.C (Kd.int .i64) w A5 l5.length l5) (hc5 : l5.length ≤ c5) (hr7 : Kd.C (Kd.int .i64) w A7 l7.length l7) (hc7 : l7.length ≤ c7) (hk : kd = 3) (h0 : 0 ≤ fd) {s : Slot} (hs : ss[fd.toNat]? = some (some s)) {q : Nat} (hq : qs[fd.toNat]? = some (some q)) (hs1 : 0 ≤ s1) (hsub : rights_Subset.f s1 s.f1 = some true) (hG : purlieuref13_Get.f 40 (ls ss) fd s1 = some 0) : Calls Try.prog 19 #[.pointer (some ⟨g, 0, none⟩), .slice (some ad) ((ls ss).length) c, .agg #[.int .i64 kd, .int .i64 fd, .int .i64 s0, .int .u32 s1, .bool b0, .slice A5 l5.length c5, .int .i64 s3, .slice A7 l7.length c7]] w (Post w b g p ok ss.length P) := by
 have HT := Aside0.mk hI.T
 have HL := Aside0.mk hI.L
 have hll := ls_len ss
 have hfew := hI.few
 have hqs := hI.T.len
 refine s_enter (n := 233) (L := [(0, .pointer (some ⟨g, 0, none⟩)), (1, .slice (some ad) ((ls ss).length) c), (2, .agg #[.int .i64 kd, .int .i64 fd, .int .i64 s0, .int .u32 s1, .bool b0, .slice A5 l5.length c5, .int .i64 s3, .slice A7 l7.length c7])]) Try.func19 rfl rfl rfl rfl ?_
 have S1 := St.start w (ok)
 refine s_seq ?_
 refine s_region ?_
 refine qo ?_
 refine e_box (cs := [.int .i64 kd, .int .i64 fd, .int .i64 s0, .int .u32 s1, .bool b0, .slice A5 l5.length c5, .int .i64 s3, .slice A7 l7.length c7]) S1 rfl rfl ?_
 intro g2 w3 hg2 S4 B5
 replace HT := tb HT B5
 replace HL := vb HL B5
 refine qv (v := .slice none 0 0) (r_assign rfl) ?_
 refine qv (v := .bool false) (r_assign rfl) ?_
 refine q_nil ?_
 refine x_seq ?_
 refine s_seq ?_
 refine s_region ?_
 refine qv (v := .agg #[.int .i64 kd, .int .i64 fd, .int .i64 s0, .int .u32 s1, .bool b0, .slice A5 l5.length c5, .int .i64 s3, .slice A7 l7.length c7]) (r_loadN (vs := [.int .i64 kd, .int .i64 fd, .int .i64 s0, .int .u32 s1, .bool b0, .slice A5 l5.length c5, .int .i64 s3, .slice A7 l7.length c7]) sz_30 rfl (S4.blk 0 rfl) rfl rfl) ?_
 refine qo ?_
 refine e_call (args := [.agg #[.int .i64 kd, .int .i64 fd, .int .i64 s0, .int .u32 s1, .bool b0, .slice A5 l5.length c5, .int .i64 s3, .slice A7 l7.length c7]]) Try.func13 (by kernel_rfl) rfl rfl ?_
 refine (own_cut kd fd s0 s1 b0 A5 c5 l5 s3 A7 c7 l7 _ (Kd.C_below hr5 B5) hc5 (Kd.C_below hr7 B5) hc7).mono ?_
 rintro e w6 ⟨m5, m7, Ba5, da5, Ba7, da7, ⟨hm5, hm7⟩, hl5, hl7, rfl, ho5, ho7, hb⟩
 refine ⟨_, rfl, ?_⟩
 have B7 := hb
 have S8 := S4.call B7
 replace HT := tb HT B7
 replace HL := vb HL B7
 have HA5 := Aside0.mk ho5
 have HA7 := Aside0.mk ho7
 clear ho5 ho7
 have HBa := S4.ext.size
 have hlt := get_lt hs
 refine qo ?_
 refine e_store (vs := [.int .i64 kd, .int .i64 fd, .int .i64 s0, .int .u32 s1, .bool b0, .slice Ba5 m5.length da5, .int .i64 s3, .slice Ba7 m7.length da7]) (cs' := [.int .i64 kd, .int .i64 fd, .int .i64 s0, .int .u32 s1, .bool b0, .slice Ba5 m5.length da5, .int .i64 s3, .slice Ba7 m7.length da7]) S8 rfl rfl rfl rfl sz_30 0 rfl (.inl rfl) rfl rfl rfl ?_
 intro w9 S10 E11
 replace HA5 := rx HA5 E11 (S8.blk 0 rfl)
 replace HA7 := rx HA7 E11 (S8.blk 0 rfl)
 replace HT := Aside0.mk (HT.out.move (fun k_ hk_ hl_ => E11.block k_ hl_ (fun e_ => by have o_ := S8.own _ (List.mem_of_getElem? (i := 0) rfl) rfl; try dsimp only at o_ e_; have b_ := hI.okN k_ hk_; omega)))
 replace HL := Aside0.mk (Kd.V_step HL.out (fun k_ hk_ hl_ => E11.block k_ hl_ (fun e_ => by have o_ := S8.own _ (List.mem_of_getElem? (i := 0) rfl) rfl; try dsimp only at o_ e_; have b_ := hI.PN k_ hk_; omega)))
 refine q_nil ?_
 refine x_seq ?_
 refine s_seq ?_
 refine s_region ?_
 refine qv (v := .agg #[.int .i64 kd, .int .i64 fd, .int .i64 s0, .int .u32 s1, .bool b0, .slice Ba5 m5.length da5, .int .i64 s3, .slice Ba7 m7.length da7]) (r_loadN (vs := [.int .i64 kd, .int .i64 fd, .int .i64 s0, .int .u32 s1, .bool b0, .slice Ba5 m5.length da5, .int .i64 s3, .slice Ba7 m7.length da7]) sz_30 rfl (S10.blk 0 rfl) rfl rfl) ?_
 refine qo ?_
 refine e_call (args := [.agg #[.int .i64 kd, .int .i64 fd, .int .i64 s0, .int .u32 s1, .bool b0, .slice Ba5 m5.length da5, .int .i64 s3, .slice Ba7 m7.length da7]]) Try.func13 (by kernel_rfl) rfl rfl ?_
 refine (own_same kd fd s0 s1 b0 Ba5 da5 m5 s3 Ba7 da7 m7 _ (R_C HA5.out).2 (R_C HA5.out).1 (R_C HA7.out).2 (R_C HA7.out).1 hl5 hl7).mono ?_
 rintro e w12 ⟨Be5, de5, Be7, de7, rfl, ho5, ho7, hb⟩
 refine ⟨_, rfl, ?_⟩
 have B13 := hb
 have S14 := S10.call B13
 replace HA5 := rb HA5 B13
 replace HA7 := rb HA7 B13
 replace HT := tb HT B13
 replace HL := vb HL B13
 have HE5 := Aside0.mk ho5
 have HE7 := Aside0.mk ho7
 clear ho5 ho7
 refine qo ?_
 refine e_alloc S14 zro_30 ?_
 intro g15 w16 hg15 S17 B18
 replace HA5 := rb HA5 B18
 replace HA7 := rb HA7 B18
 replace HE5 := rb HE5 B18
 replace HE7 := rb HE7 B18
 replace HT := tb HT B18
 replace HL := vb HL B18
 refine qo ?_
 refine e_store (vs := [.int .i64 kd, .int .i64 fd, .int .i64 s0, .int .u32 s1, .bool b0, .slice Be5 m5.length de5, .int .i64 s3, .slice Be7 m7.length de7]) (cs' := [.int .i64 kd, .int .i64 fd, .int .i64 s0, .int .u32 s1, .bool b0, .slice Be5 m5.length de5, .int .i64 s3, .slice Be7 m7.length de7]) S17 rfl rfl rfl rfl sz_30 0 rfl (.inl rfl) rfl rfl rfl ?_
 intro w19 S20 E21
 replace HA5 := rx HA5 E21 (S17.blk 0 rfl)
 replace HA7 := rx HA7 E21 (S17.blk 0 rfl)
 replace HE5 := rx HE5 E21 (S17.blk 0 rfl)
 replace HE7 := rx HE7 E21 (S17.blk 0 rfl)
 replace HT := Aside0.mk (HT.out.move (fun k_ hk_ hl_ => E21.block k_ hl_ (fun e_ => by have o_ := S17.own _ (List.mem_of_getElem? (i := 0) rfl) rfl; try dsimp only at o_ e_; have b_ := hI.okN k_ hk_; omega)))
 replace HL := Aside0.mk (Kd.V_step HL.out (fun k_ hk_ hl_ => E21.block k_ hl_ (fun e_ => by have o_ := S17.own _ (List.mem_of_getElem? (i := 0) rfl) rfl; try dsimp only at o_ e_; have b_ := hI.PN k_ hk_; omega)))
 refine q_nil ?_
 refine x_seq ?_
 refine s_seq ?_
 refine s_seq ?_
 refine s_region ?_
 refine qv (v := .pointer (some ⟨g2, 0, none⟩)) (r_field fld_30_0 rfl rfl) ?_
 refine qv (v := .int .i64 kd) (r_load1 sz_3 rfl (S20.cell 1 rfl rfl)) ?_
 refine q_nil ?_
 refine x_seq ?_
 refine s_block ?_
 refine s_seq ?_
 refine s_region ?_
 refine qv (v := .bool false) (r_eql rfl rfl (beq_f (by omega))) ?_
 refine qv (v := .bool false) (r_assign rfl) ?_
 refine q_nil ?_
 refine x_seq ?_
 refine s_false rfl ?_
 refine s_seq ?_
 refine s_region ?_
 refine qv (v := .bool false) (r_eql rfl rfl (beq_f (by omega))) ?_
 refine qv (v := .bool false) (r_assign rfl) ?_
 refine q_nil ?_
 refine x_seq ?_
 refine s_false rfl ?_
 refine s_seq ?_
 refine s_region ?_
 refine qv (v := .bool true) (r_eql rfl rfl (beq_t (by omega))) ?_
 refine qv (v := .bool true) (r_assign rfl) ?_
 refine q_nil ?_
 refine x_seq ?_
 refine s_true rfl ?_
 refine s_seq ?_
 refine s_region ?_
 refine qv (v := .slice (some ad) ((ls ss).length) c) (r_move rfl) ?_
 refine qv (v := .pointer (some ⟨g2, 1, none⟩)) (r_field fld_30_1 rfl rfl) ?_
 refine qv (v := .int .i64 fd) (r_load1 sz_3 rfl (S20.cell 1 rfl rfl)) ?_
 refine qv (v := .pointer (some ⟨g2, 2, none⟩)) (r_field fld_30_2 rfl rfl) ?_
 refine qv (v := .pointer (some ⟨g2, 3, none⟩)) (r_field fld_28_1 rfl rfl) ?_
 refine qv (v := .int .u32 s1) (r_load1 sz_23 rfl (S20.cell 1 rfl rfl)) ?_
 refine qo ?_
 refine e_call (args := [.slice (some ad) ((ls ss).length) c, .int .i64 fd, .int .u32 s1]) Try.func45 (by kernel_rfl) rfl rfl ?_
 have hwr_ := S20.ext.size
 refine (RLimit_ok HL.out (fun k_ hk_ => Nat.lt_of_lt_of_le (hI.PN k_ hk_) S20.ext.size) fd (by omega) h0 hs s1 hs1 hG).mono ?_
 rintro e w22 ⟨ad2, c2, rfl, hL2, hb⟩
 refine ⟨_, rfl, ?_⟩
 have B23 := hb
 have S24 := S20.call B23
 replace HA5 := rb HA5 B23
 replace HA7 := rb HA7 B23
 replace HE5 := rb HE5 B23
 replace HE7 := rb HE7 B23
 replace HT := tb HT B23
 replace HL := vb HL B23
 have HL2 := Aside0.mk hL2
 refine qv (v := .tuple #[.slice (some ad2) ((ls (ss.set fd.toNat (some (limS s s1)))).length) c2, .int .i64 0]) (r_move rfl) ?_
 refine qv (v := .slice (some ad2) ((ls (ss.set fd.toNat (some (limS s s1)))).length) c2) (r_extract rfl rfl) ?_
 refine qv (v := .int .i64 0) (r_extract rfl rfl) ?_
 refine qv (v := .slice (some ad2) ((ls (ss.set fd.toNat (some (limS s s1)))).length) c2) (r_assign rfl) ?_
 refine qv (v := .int .i64 0) (r_assign rfl) ?_
 refine q_nil ?_
 refine x_seq ?_
 refine s_seq ?_
 refine s_region ?_
 refine qv (v := .slice (some ad2) ((ls (ss.set fd.toNat (some (limS s s1)))).length) c2) (r_move rfl) ?_
 refine qv (v := .pointer (some ⟨g, 0, none⟩)) (r_move rfl) ?_
 refine qv (v := .pointer (some ⟨g15, 1, none⟩)) (r_field fld_30_1 rfl rfl) ?_
 refine qv (v := .int .i64 fd) (r_load1 sz_3 rfl (S24.cell 0 rfl rfl)) ?_
 refine qv (v := .pointer (some ⟨g15, 2, none⟩)) (r_field fld_30_2 rfl rfl) ?_
 refine qv (v := .pointer (some ⟨g15, 3, none⟩)) (r_field fld_28_1 rfl rfl) ?_
 refine qv (v := .int .u32 s1) (r_load1 sz_23 rfl (S24.cell 0 rfl rfl)) ?_
 refine qo ?_
 refine e_call (args := [.pointer (some ⟨g, 0, none⟩), .int .i64 fd, .int .u32 s1]) Try.func14 (by kernel_rfl) rfl rfl ?_
 have zbg15 := heap_lt (S24.blk 0 rfl)
 have zog15 := S24.own _ (List.mem_of_getElem? (i := 0) rfl) rfl
 dsimp only at zbg15 zog15
 have zbg2 := heap_lt (S24.blk 1 rfl)
 have zog2 := S24.own _ (List.mem_of_getElem? (i := 1) rfl) rfl
 dsimp only at zbg2 zog2
 have zx_ := hI.okN _ (hI.T.som _ q hq).2.1
 have hw1_ := S24.ext.size
 replace HA5 := Aside0.mk (show Kd.R (Kd.int .i64) 3 w22 w3.heap.size (fun k_ => w3.heap.size ≤ k_ ∧ k_ < w22.heap.size) _ _ from Kd.R_mono (Kd.R_bound HA5.out) (fun k_ h_ => ⟨h_.2.1, h_.2.2.1⟩))
 obtain ⟨_, hblk_⟩ : ∃ cs_, w22.heap[q]? = some (.cells cs_ 28 (0, 0)) := by obtain ⟨_, _, _, _, A_, c_, hb_, _⟩ := HT.out.som _ q hq; exact ⟨_, hb_⟩
 refine (Limit_ok HT.out fd h0 hq s hs s1 hsub).mono ?_
 rintro e w25 ⟨rfl, hT3, hE⟩
 refine ⟨_, rfl, ?_⟩
 have Sl_ : St w ok w22 [⟨g15, true, .cells #[.int .i64 kd, .int .i64 fd, .int .i64 s0, .int .u32 s1, .bool b0, .slice Be5 m5.length de5, .int .i64 s3, .slice Be7 m7.length de7] 30 (0, 0)⟩, ⟨g2, true, .cells #[.int .i64 kd, .int .i64 fd, .int .i64 s0, .int .u32 s1, .bool b0, .slice Ba5 m5.length da5, .int .i64 s3, .slice Ba7 m7.length da7] 30 (0, 0)⟩] := S24
 have S26 := Sl_.callX hE (fun x_ hx_ e_ => by simp only [List.mem_cons, List.not_mem_nil, or_false] at hx_; rcases hx_ with rfl | rfl; all_goals ((try dsimp only at e_); omega)) (fun k_ h1_ h2_ => by (try dsimp only at h2_); rw [h2_]; exact (hI.T.som _ q hq).2.1)
 replace HA5 := rx HA5 hE hblk_
 replace HA7 := rx HA7 hE hblk_
 replace HE5 := rx HE5 hE hblk_
 replace HE7 := rx HE7 hE hblk_
 replace HL := Aside0.mk (Kd.V_step HL.out (fun k_ hk_ hl_ => hE.block k_ hl_ (fun e_ => by (try dsimp only at e_); rw [e_] at hk_; exact hI.D _ (hI.T.som _ q hq).2.1 hk_)))
 replace HL2 := Aside0.mk (Kd.V_step HL2.out (fun k_ hk_ hl_ => hE.block k_ hl_ (fun e_ => by (try dsimp only at e_); rw [e_] at hk_; exact hk_.elim (hI.D _ (hI.T.som _ q hq).2.1) (fun h_ => by omega))))
 have hw2_ := hE.size
 clear HT
 have HT := Aside0.mk hT3
 have HZ := Aside0.mk (Nat.le_refl w25.heap.size)
 clear hE hblk_ hT3
 refine qv (v := .int .i64 0) (r_move rfl) ?_
 refine qv (v := .bool true) (r_eql rfl rfl (beq_t (by omega))) ?_
 refine qv (v := .slice (some ad2) ((ls (ss.set fd.toNat (some (limS s s1)))).length) c2) (r_assign rfl) ?_
 refine qv (v := .bool true) (r_assign rfl) ?_
 refine q_nil ?_
 refine x_seq ?_
 refine s_ret ?_
 refine x_blk_ret ?_
 refine x_seq_ret ?_
 refine t_ret2 (v := .slice (some ad2) ((ls (ss.set fd.toNat (some (limS s s1)))).length) c2) (v' := .bool true) rfl rfl rfl ?_
 exact post_new hI S26.ext HT.out HL2.out (by simp) (hI.G.set _ (fun s_ h_ => by obtain rfl := Option.some.inj h_; exact good_lim (hI.G _ _ hs) hs1)) w.heap.size w.heap.size (Nat.le_refl _) (Nat.le_refl _) (fun k_ h_ hl_ => .inl h_) (fun k_ h_ hl_ => by exact h_.elim .inl (fun h2 => .inr (.inr (by omega))))
set_option maxHeartbeats 8000000 in
set_option maxRecDepth 100000 in
theorem Does_LimitIoctls_ok {w : World} {b g p : Nat} {ok : Nat → Prop} {qs : List (Option Nat)} {ss : List (Option Slot)} {P : Nat → Prop} {ad : Addr} {c : Nat} (hI : DInv w b g p ok qs ss P ad c) (kd fd s0 s1 : Int) (b0 : Bool) (A5 : Option Addr) (c5 : Nat) (l5 : List Int) (s3 : Int) (A7 : Option Addr) (c7 : Nat) (l7 : List Int) (hr5 : Kd.C (Kd.int .i64) w A5 l5.length l5) (hc5 : l5.length ≤ c5) (hr7 : Kd.C (Kd.int .i64) w A7 l7.length l7) (hc7 : l7.length ≤ c7) (hk : kd = 4) (h0 : 0 ≤ fd) {s : Slot} (hs : ss[fd.toNat]? = some (some s)) {q : Nat} (hq : qs[fd.toNat]? = some (some q)) (r1 : Bool) (r2 : List Int) (hr2 : r2.length ≤ 200) (hG : purlieuref13_Get.f 40 (ls ss) fd 0 = some 0) (hM : white_Limit.f 600 s.f2.f0 s.f2.f1 (cut50 l7) = some (r1, r2, 0)) (hM2 : purlieuref02_Limit.f 600 s.f2.f0 s.f2.f1 (cut50 l7) = some (r1, r2, 0)) : Calls Try.prog 19 #[.pointer (some ⟨g, 0, none⟩), .slice (some ad) ((ls ss).length) c, .agg #[.int .i64 kd, .int .i64 fd, .int .i64 s0, .int .u32 s1, .bool b0, .slice A5 l5.length c5, .int .i64 s3, .slice A7 l7.length c7]] w (Post w b g p ok ss.length P) := by
 have HT := Aside0.mk hI.T
 have HL := Aside0.mk hI.L
 have hll := ls_len ss
 have hfew := hI.few
 have hqs := hI.T.len
 refine s_enter (n := 233) (L := [(0, .pointer (some ⟨g, 0, none⟩)), (1, .slice (some ad) ((ls ss).length) c), (2, .agg #[.int .i64 kd, .int .i64 fd, .int .i64 s0, .int .u32 s1, .bool b0, .slice A5 l5.length c5, .int .i64 s3, .slice A7 l7.length c7])]) Try.func19 rfl rfl rfl rfl ?_
 have S1 := St.start w (ok)
 refine s_seq ?_
 refine s_region ?_
 refine qo ?_
 refine e_box (cs := [.int .i64 kd, .int .i64 fd, .int .i64 s0, .int .u32 s1, .bool b0, .slice A5 l5.length c5, .int .i64 s3, .slice A7 l7.length c7]) S1 rfl rfl ?_
 intro g2 w3 hg2 S4 B5
 replace HT := tb HT B5
 replace HL := vb HL B5
 refine qv (v := .slice none 0 0) (r_assign rfl) ?_
 refine qv (v := .bool false) (r_assign rfl) ?_
 refine q_nil ?_
 refine x_seq ?_
 refine s_seq ?_
 refine s_region ?_
 refine qv (v := .agg #[.int .i64 kd, .int .i64 fd, .int .i64 s0, .int .u32 s1, .bool b0, .slice A5 l5.length c5, .int .i64 s3, .slice A7 l7.length c7]) (r_loadN (vs := [.int .i64 kd, .int .i64 fd, .int .i64 s0, .int .u32 s1, .bool b0, .slice A5 l5.length c5, .int .i64 s3, .slice A7 l7.length c7]) sz_30 rfl (S4.blk 0 rfl) rfl rfl) ?_
 refine qo ?_
 refine e_call (args := [.agg #[.int .i64 kd, .int .i64 fd, .int .i64 s0, .int .u32 s1, .bool b0, .slice A5 l5.length c5, .int .i64 s3, .slice A7 l7.length c7]]) Try.func13 (by kernel_rfl) rfl rfl ?_
 refine (own_cut kd fd s0 s1 b0 A5 c5 l5 s3 A7 c7 l7 _ (Kd.C_below hr5 B5) hc5 (Kd.C_below hr7 B5) hc7).mono ?_
 rintro e w6 ⟨m5, m7, Ba5, da5, Ba7, da7, ⟨hm5, hm7⟩, hl5, hl7, rfl, ho5, ho7, hb⟩
 refine ⟨_, rfl, ?_⟩
 have B7 := hb
 have S8 := S4.call B7
 replace HT := tb HT B7
 replace HL := vb HL B7
 have HA5 := Aside0.mk ho5
 have HA7 := Aside0.mk ho7
 clear ho5 ho7
 have HBa := S4.ext.size
 have hlt := get_lt hs
 rw [← hm7] at hM hM2
 refine qo ?_
 refine e_store (vs := [.int .i64 kd, .int .i64 fd, .int .i64 s0, .int .u32 s1, .bool b0, .slice Ba5 m5.length da5, .int .i64 s3, .slice Ba7 m7.length da7]) (cs' := [.int .i64 kd, .int .i64 fd, .int .i64 s0, .int .u32 s1, .bool b0, .slice Ba5 m5.length da5, .int .i64 s3, .slice Ba7 m7.length da7]) S8 rfl rfl rfl rfl sz_30 0 rfl (.inl rfl) rfl rfl rfl ?_
 intro w9 S10 E11
 replace HA5 := rx HA5 E11 (S8.blk 0 rfl)
 replace HA7 := rx HA7 E11 (S8.blk 0 rfl)
 replace HT := Aside0.mk (HT.out.move (fun k_ hk_ hl_ => E11.block k_ hl_ (fun e_ => by have o_ := S8.own _ (List.mem_of_getElem? (i := 0) rfl) rfl; try dsimp only at o_ e_; have b_ := hI.okN k_ hk_; omega)))
 replace HL := Aside0.mk (Kd.V_step HL.out (fun k_ hk_ hl_ => E11.block k_ hl_ (fun e_ => by have o_ := S8.own _ (List.mem_of_getElem? (i := 0) rfl) rfl; try dsimp only at o_ e_; have b_ := hI.PN k_ hk_; omega)))
 refine q_nil ?_
 refine x_seq ?_
 refine s_seq ?_
 refine s_region ?_
 refine qv (v := .agg #[.int .i64 kd, .int .i64 fd, .int .i64 s0, .int .u32 s1, .bool b0, .slice Ba5 m5.length da5, .int .i64 s3, .slice Ba7 m7.length da7]) (r_loadN (vs := [.int .i64 kd, .int .i64 fd, .int .i64 s0, .int .u32 s1, .bool b0, .slice Ba5 m5.length da5, .int .i64 s3, .slice Ba7 m7.length da7]) sz_30 rfl (S10.blk 0 rfl) rfl rfl) ?_
 refine qo ?_
 refine e_call (args := [.agg #[.int .i64 kd, .int .i64 fd, .int .i64 s0, .int .u32 s1, .bool b0, .slice Ba5 m5.length da5, .int .i64 s3, .slice Ba7 m7.length da7]]) Try.func13 (by kernel_rfl) rfl rfl ?_
 refine (own_same kd fd s0 s1 b0 Ba5 da5 m5 s3 Ba7 da7 m7 _ (R_C HA5.out).2 (R_C HA5.out).1 (R_C HA7.out).2 (R_C HA7.out).1 hl5 hl7).mono ?_
 rintro e w12 ⟨Be5, de5, Be7, de7, rfl, ho5, ho7, hb⟩
 refine ⟨_, rfl, ?_⟩
 have B13 := hb
 have S14 := S10.call B13
 replace HA5 := rb HA5 B13
 replace HA7 := rb HA7 B13
 replace HT := tb HT B13
 replace HL := vb HL B13
 have HE5 := Aside0.mk ho5
 have HE7 := Aside0.mk ho7
 clear ho5 ho7
 refine qo ?_
 refine e_alloc S14 zro_30 ?_
 intro g15 w16 hg15 S17 B18
 replace HA5 := rb HA5 B18
 replace HA7 := rb HA7 B18
 replace HE5 := rb HE5 B18
 replace HE7 := rb HE7 B18
 replace HT := tb HT B18
 replace HL := vb HL B18
 refine qo ?_
 refine e_store (vs := [.int .i64 kd, .int .i64 fd, .int .i64 s0, .int .u32 s1, .bool b0, .slice Be5 m5.length de5, .int .i64 s3, .slice Be7 m7.length de7]) (cs' := [.int .i64 kd, .int .i64 fd, .int .i64 s0, .int .u32 s1, .bool b0, .slice Be5 m5.length de5, .int .i64 s3, .slice Be7 m7.length de7]) S17 rfl rfl rfl rfl sz_30 0 rfl (.inl rfl) rfl rfl rfl ?_
 intro w19 S20 E21
 replace HA5 := rx HA5 E21 (S17.blk 0 rfl)
 replace HA7 := rx HA7 E21 (S17.blk 0 rfl)
 replace HE5 := rx HE5 E21 (S17.blk 0 rfl)
 replace HE7 := rx HE7 E21 (S17.blk 0 rfl)
 replace HT := Aside0.mk (HT.out.move (fun k_ hk_ hl_ => E21.block k_ hl_ (fun e_ => by have o_ := S17.own _ (List.mem_of_getElem? (i := 0) rfl) rfl; try dsimp only at o_ e_; have b_ := hI.okN k_ hk_; omega)))
 replace HL := Aside0.mk (Kd.V_step HL.out (fun k_ hk_ hl_ => E21.block k_ hl_ (fun e_ => by have o_ := S17.own _ (List.mem_of_getElem? (i := 0) rfl) rfl; try dsimp only at o_ e_; have b_ := hI.PN k_ hk_; omega)))
 refine q_nil ?_
 refine x_seq ?_
 refine s_seq ?_
 refine s_seq ?_
 refine s_region ?_
 refine qv (v := .pointer (some ⟨g2, 0, none⟩)) (r_field fld_30_0 rfl rfl) ?_
 refine qv (v := .int .i64 kd) (r_load1 sz_3 rfl (S20.cell 1 rfl rfl)) ?_
 refine q_nil ?_
 refine x_seq ?_
 refine s_block ?_
 refine s_seq ?_
 refine s_region ?_
 refine qv (v := .bool false) (r_eql rfl rfl (beq_f (by omega))) ?_
 refine qv (v := .bool false) (r_assign rfl) ?_
 refine q_nil ?_
 refine x_seq ?_
 refine s_false rfl ?_
 refine s_seq ?_
 refine s_region ?_
 refine qv (v := .bool false) (r_eql rfl rfl (beq_f (by omega))) ?_
 refine qv (v := .bool false) (r_assign rfl) ?_
 refine q_nil ?_
 refine x_seq ?_
 refine s_false rfl ?_
 refine s_seq ?_
 refine s_region ?_
 refine qv (v := .bool false) (r_eql rfl rfl (beq_f (by omega))) ?_
 refine qv (v := .bool false) (r_assign rfl) ?_
 refine q_nil ?_
 refine x_seq ?_
 refine s_false rfl ?_
 refine s_seq ?_
 refine s_region ?_
 refine qv (v := .bool true) (r_eql rfl rfl (beq_t (by omega))) ?_
 refine qv (v := .bool true) (r_assign rfl) ?_
 refine q_nil ?_
 refine x_seq ?_
 refine s_true rfl ?_
 refine s_seq ?_
 refine s_region ?_
 refine qv (v := .slice (some ad) ((ls ss).length) c) (r_move rfl) ?_
 refine qv (v := .pointer (some ⟨g2, 1, none⟩)) (r_field fld_30_1 rfl rfl) ?_
 refine qv (v := .int .i64 fd) (r_load1 sz_3 rfl (S20.cell 1 rfl rfl)) ?_
 refine qv (v := .pointer (some ⟨g2, 7, none⟩)) (r_field fld_30_3 rfl rfl) ?_
 refine qv (v := .slice Ba7 m7.length da7) (r_load1 sz_24 rfl (S20.cell 1 rfl rfl)) ?_
 refine qo ?_
 refine e_call (args := [.slice (some ad) ((ls ss).length) c, .int .i64 fd, .slice Ba7 m7.length da7]) Try.func46 (by kernel_rfl) rfl rfl ?_
 have hwr_ := S20.ext.size
 refine (RIo_ok HL.out (fun k_ hk_ => Nat.lt_of_lt_of_le (hI.PN k_ hk_) S20.ext.size) fd (by omega) h0 hs (R_C HA7.out).2 (R_C HA7.out).1 r1 r2 hG hM2).mono ?_
 rintro e w22 ⟨ad2, c2, rfl, hL2, hb⟩
 refine ⟨_, rfl, ?_⟩
 have B23 := hb
 have S24 := S20.call B23
 replace HA5 := rb HA5 B23
 replace HA7 := rb HA7 B23
 replace HE5 := rb HE5 B23
 replace HE7 := rb HE7 B23
 replace HT := tb HT B23
 replace HL := vb HL B23
 have HL2 := Aside0.mk hL2
 refine qv (v := .tuple #[.slice (some ad2) ((ls (ss.set fd.toNat (some (⟨s.f0, s.f1, ⟨r1, r2⟩, s.f3⟩ : Slot)))).length) c2, .int .i64 0]) (r_move rfl) ?_
 refine qv (v := .slice (some ad2) ((ls (ss.set fd.toNat (some (⟨s.f0, s.f1, ⟨r1, r2⟩, s.f3⟩ : Slot)))).length) c2) (r_extract rfl rfl) ?_
 refine qv (v := .int .i64 0) (r_extract rfl rfl) ?_
 refine qv (v := .slice (some ad2) ((ls (ss.set fd.toNat (some (⟨s.f0, s.f1, ⟨r1, r2⟩, s.f3⟩ : Slot)))).length) c2) (r_assign rfl) ?_
 refine qv (v := .int .i64 0) (r_assign rfl) ?_
 refine q_nil ?_
 refine x_seq ?_
 refine s_seq ?_
 refine s_region ?_
 refine qv (v := .slice (some ad2) ((ls (ss.set fd.toNat (some (⟨s.f0, s.f1, ⟨r1, r2⟩, s.f3⟩ : Slot)))).length) c2) (r_move rfl) ?_
 refine qv (v := .pointer (some ⟨g, 0, none⟩)) (r_move rfl) ?_
 refine qv (v := .pointer (some ⟨g15, 1, none⟩)) (r_field fld_30_1 rfl rfl) ?_
 refine qv (v := .int .i64 fd) (r_load1 sz_3 rfl (S24.cell 0 rfl rfl)) ?_
 refine qv (v := .pointer (some ⟨g15, 7, none⟩)) (r_field fld_30_3 rfl rfl) ?_
 refine qv (v := .slice Be7 m7.length de7) (r_load1 sz_24 rfl (S24.cell 0 rfl rfl)) ?_
 refine qo ?_
 refine e_call (args := [.pointer (some ⟨g, 0, none⟩), .int .i64 fd, .slice Be7 m7.length de7]) Try.func15 (by kernel_rfl) rfl rfl ?_
 replace HL2 := Aside0.mk (Kd.V_bound HL2.out)
 have zbg15 := heap_lt (S24.blk 0 rfl)
 have zog15 := S24.own _ (List.mem_of_getElem? (i := 0) rfl) rfl
 dsimp only at zbg15 zog15
 have zbg2 := heap_lt (S24.blk 1 rfl)
 have zog2 := S24.own _ (List.mem_of_getElem? (i := 1) rfl) rfl
 dsimp only at zbg2 zog2
 have zx_ := hI.okN _ (hI.T.som _ q hq).2.1
 have hw1_ := S24.ext.size
 replace HA5 := Aside0.mk (show Kd.R (Kd.int .i64) 3 w22 w3.heap.size (fun k_ => w3.heap.size ≤ k_ ∧ k_ < w22.heap.size) _ _ from Kd.R_mono (Kd.R_bound HA5.out) (fun k_ h_ => ⟨h_.2.1, h_.2.2.1⟩))
 obtain ⟨_, hblk_⟩ : ∃ cs_, w22.heap[q]? = some (.cells cs_ 28 (0, 0)) := by obtain ⟨_, _, _, _, A_, c_, hb_, _⟩ := HT.out.som _ q hq; exact ⟨_, hb_⟩
 refine (LimitIoctls_ok (TabAt.mono HT.out (ok' := fun k => ok k ∨ w22.heap.size ≤ k) (fun k h => .inl h)) fd h0 hq s hs (fun k h => .inr h) 600 Be7 m7 de7 (R_C HE7.out).2 (R_C HE7.out).1 r1 r2 hM).mono ?_
 rintro e w25 ⟨rfl, hT3, hE⟩
 refine ⟨_, rfl, ?_⟩
 have Sl_ : St w ok w22 [⟨g15, true, .cells #[.int .i64 kd, .int .i64 fd, .int .i64 s0, .int .u32 s1, .bool b0, .slice Be5 m5.length de5, .int .i64 s3, .slice Be7 m7.length de7] 30 (0, 0)⟩, ⟨g2, true, .cells #[.int .i64 kd, .int .i64 fd, .int .i64 s0, .int .u32 s1, .bool b0, .slice Ba5 m5.length da5, .int .i64 s3, .slice Ba7 m7.length da7] 30 (0, 0)⟩] := S24
 have S26 := Sl_.callX hE (fun x_ hx_ e_ => by simp only [List.mem_cons, List.not_mem_nil, or_false] at hx_; rcases hx_ with rfl | rfl; all_goals ((try dsimp only at e_); omega)) (fun k_ h1_ h2_ => by (try dsimp only at h2_); rw [h2_]; exact (hI.T.som _ q hq).2.1)
 replace HA5 := rx HA5 hE hblk_
 replace HA7 := rx HA7 hE hblk_
 replace HE5 := rx HE5 hE hblk_
 replace HE7 := rx HE7 hE hblk_
 replace HL := Aside0.mk (Kd.V_step HL.out (fun k_ hk_ hl_ => hE.block k_ hl_ (fun e_ => by (try dsimp only at e_); rw [e_] at hk_; exact hI.D _ (hI.T.som _ q hq).2.1 hk_)))
 replace HL2 := Aside0.mk (Kd.V_step HL2.out (fun k_ hk_ hl_ => hE.block k_ hl_ (fun e_ => by (try dsimp only at e_); rw [e_] at hk_; exact hk_.1.elim (hI.D _ (hI.T.som _ q hq).2.1) (fun h_ => by omega))))
 have hw2_ := hE.size
 clear HT
 have HT := Aside0.mk hT3.bound
 have HZ := Aside0.mk (Nat.le_refl w25.heap.size)
 have hokb : ∀ k, ((ok k ∨ w22.heap.size ≤ k) ∧ k < w25.heap.size) → k < w.heap.size ∨ (w22.heap.size ≤ k ∧ k < w25.heap.size) := fun k h => h.1.elim (fun h1 => .inl (hI.okN k h1)) (fun h1 => .inr ⟨h1, h.2⟩)
 clear hE hblk_ hT3
 refine qv (v := .int .i64 0) (r_move rfl) ?_
 refine qv (v := .bool true) (r_eql rfl rfl (beq_t (by omega))) ?_
 refine qv (v := .slice (some ad2) ((ls (ss.set fd.toNat (some (⟨s.f0, s.f1, ⟨r1, r2⟩, s.f3⟩ : Slot)))).length) c2) (r_assign rfl) ?_
 refine qv (v := .bool true) (r_assign rfl) ?_
 refine q_nil ?_
 refine x_seq ?_
 refine s_ret ?_
 refine x_blk_ret ?_
 refine x_seq_ret ?_
 refine t_ret2 (v := .slice (some ad2) ((ls (ss.set fd.toNat (some (⟨s.f0, s.f1, ⟨r1, r2⟩, s.f3⟩ : Slot)))).length) c2) (v' := .bool true) rfl rfl rfl ?_
 exact post_new hI S26.ext HT.out HL2.out (by simp) (hI.G.set _ (fun s_ h_ => by obtain rfl := Option.some.inj h_; exact ⟨(hI.G _ _ hs).pos, (hI.G _ _ hs).rts, hr2⟩)) w22.heap.size w25.heap.size hw1_ hw2_ (fun k_ h_ hl_ => h_.1.elim .inl (fun h2 => .inr ⟨h2, h_.2⟩)) (fun k_ h_ hl_ => by exact h_.1.elim .inl (fun h2 => .inr (.inl ⟨by omega, h_.2⟩)))
set_option maxHeartbeats 8000000 in
set_option maxRecDepth 100000 in
theorem Does_LimitFcntls_ok {w : World} {b g p : Nat} {ok : Nat → Prop} {qs : List (Option Nat)} {ss : List (Option Slot)} {P : Nat → Prop} {ad : Addr} {c : Nat} (hI : DInv w b g p ok qs ss P ad c) (kd fd s0 s1 : Int) (b0 : Bool) (A5 : Option Addr) (c5 : Nat) (l5 : List Int) (s3 : Int) (A7 : Option Addr) (c7 : Nat) (l7 : List Int) (hr5 : Kd.C (Kd.int .i64) w A5 l5.length l5) (hc5 : l5.length ≤ c5) (hr7 : Kd.C (Kd.int .i64) w A7 l7.length l7) (hc7 : l7.length ≤ c7) (hk : kd = 5) (h0 : 0 ≤ fd) {s : Slot} (hs : ss[fd.toNat]? = some (some s)) {q : Nat} (hq : qs[fd.toNat]? = some (some q)) (r1 : Int) (hG : purlieuref13_Get.f 40 (ls ss) fd 0 = some 0) (hM : white_Mask.f s.f3 s3 = some (r1, 0)) (hM2 : purlieuref02_Mask.f 400 s.f3 s3 = some (r1, 0)) : Calls Try.prog 19 #[.pointer (some ⟨g, 0, none⟩), .slice (some ad) ((ls ss).length) c, .agg #[.int .i64 kd, .int .i64 fd, .int .i64 s0, .int .u32 s1, .bool b0, .slice A5 l5.length c5, .int .i64 s3, .slice A7 l7.length c7]] w (Post w b g p ok ss.length P) := by
 have HT := Aside0.mk hI.T
 have HL := Aside0.mk hI.L
 have hll := ls_len ss
 have hfew := hI.few
 have hqs := hI.T.len
 refine s_enter (n := 233) (L := [(0, .pointer (some ⟨g, 0, none⟩)), (1, .slice (some ad) ((ls ss).length) c), (2, .agg #[.int .i64 kd, .int .i64 fd, .int .i64 s0, .int .u32 s1, .bool b0, .slice A5 l5.length c5, .int .i64 s3, .slice A7 l7.length c7])]) Try.func19 rfl rfl rfl rfl ?_
 have S1 := St.start w (ok)
 refine s_seq ?_
 refine s_region ?_
 refine qo ?_
 refine e_box (cs := [.int .i64 kd, .int .i64 fd, .int .i64 s0, .int .u32 s1, .bool b0, .slice A5 l5.length c5, .int .i64 s3, .slice A7 l7.length c7]) S1 rfl rfl ?_
 intro g2 w3 hg2 S4 B5
 replace HT := tb HT B5
 replace HL := vb HL B5
 refine qv (v := .slice none 0 0) (r_assign rfl) ?_
 refine qv (v := .bool false) (r_assign rfl) ?_
 refine q_nil ?_
 refine x_seq ?_
 refine s_seq ?_
 refine s_region ?_
 refine qv (v := .agg #[.int .i64 kd, .int .i64 fd, .int .i64 s0, .int .u32 s1, .bool b0, .slice A5 l5.length c5, .int .i64 s3, .slice A7 l7.length c7]) (r_loadN (vs := [.int .i64 kd, .int .i64 fd, .int .i64 s0, .int .u32 s1, .bool b0, .slice A5 l5.length c5, .int .i64 s3, .slice A7 l7.length c7]) sz_30 rfl (S4.blk 0 rfl) rfl rfl) ?_
 refine qo ?_
 refine e_call (args := [.agg #[.int .i64 kd, .int .i64 fd, .int .i64 s0, .int .u32 s1, .bool b0, .slice A5 l5.length c5, .int .i64 s3, .slice A7 l7.length c7]]) Try.func13 (by kernel_rfl) rfl rfl ?_
 refine (own_cut kd fd s0 s1 b0 A5 c5 l5 s3 A7 c7 l7 _ (Kd.C_below hr5 B5) hc5 (Kd.C_below hr7 B5) hc7).mono ?_
 rintro e w6 ⟨m5, m7, Ba5, da5, Ba7, da7, ⟨hm5, hm7⟩, hl5, hl7, rfl, ho5, ho7, hb⟩
 refine ⟨_, rfl, ?_⟩
 have B7 := hb
 have S8 := S4.call B7
 replace HT := tb HT B7
 replace HL := vb HL B7
 have HA5 := Aside0.mk ho5
 have HA7 := Aside0.mk ho7
 clear ho5 ho7
 have HBa := S4.ext.size
 have hlt := get_lt hs
 refine qo ?_
 refine e_store (vs := [.int .i64 kd, .int .i64 fd, .int .i64 s0, .int .u32 s1, .bool b0, .slice Ba5 m5.length da5, .int .i64 s3, .slice Ba7 m7.length da7]) (cs' := [.int .i64 kd, .int .i64 fd, .int .i64 s0, .int .u32 s1, .bool b0, .slice Ba5 m5.length da5, .int .i64 s3, .slice Ba7 m7.length da7]) S8 rfl rfl rfl rfl sz_30 0 rfl (.inl rfl) rfl rfl rfl ?_
 intro w9 S10 E11
 replace HA5 := rx HA5 E11 (S8.blk 0 rfl)
 replace HA7 := rx HA7 E11 (S8.blk 0 rfl)
 replace HT := Aside0.mk (HT.out.move (fun k_ hk_ hl_ => E11.block k_ hl_ (fun e_ => by have o_ := S8.own _ (List.mem_of_getElem? (i := 0) rfl) rfl; try dsimp only at o_ e_; have b_ := hI.okN k_ hk_; omega)))
 replace HL := Aside0.mk (Kd.V_step HL.out (fun k_ hk_ hl_ => E11.block k_ hl_ (fun e_ => by have o_ := S8.own _ (List.mem_of_getElem? (i := 0) rfl) rfl; try dsimp only at o_ e_; have b_ := hI.PN k_ hk_; omega)))
 refine q_nil ?_
 refine x_seq ?_
 refine s_seq ?_
 refine s_region ?_
 refine qv (v := .agg #[.int .i64 kd, .int .i64 fd, .int .i64 s0, .int .u32 s1, .bool b0, .slice Ba5 m5.length da5, .int .i64 s3, .slice Ba7 m7.length da7]) (r_loadN (vs := [.int .i64 kd, .int .i64 fd, .int .i64 s0, .int .u32 s1, .bool b0, .slice Ba5 m5.length da5, .int .i64 s3, .slice Ba7 m7.length da7]) sz_30 rfl (S10.blk 0 rfl) rfl rfl) ?_
 refine qo ?_
 refine e_call (args := [.agg #[.int .i64 kd, .int .i64 fd, .int .i64 s0, .int .u32 s1, .bool b0, .slice Ba5 m5.length da5, .int .i64 s3, .slice Ba7 m7.length da7]]) Try.func13 (by kernel_rfl) rfl rfl ?_
 refine (own_same kd fd s0 s1 b0 Ba5 da5 m5 s3 Ba7 da7 m7 _ (R_C HA5.out).2 (R_C HA5.out).1 (R_C HA7.out).2 (R_C HA7.out).1 hl5 hl7).mono ?_
 rintro e w12 ⟨Be5, de5, Be7, de7, rfl, ho5, ho7, hb⟩
 refine ⟨_, rfl, ?_⟩
 have B13 := hb
 have S14 := S10.call B13
 replace HA5 := rb HA5 B13
 replace HA7 := rb HA7 B13
 replace HT := tb HT B13
 replace HL := vb HL B13
 have HE5 := Aside0.mk ho5
 have HE7 := Aside0.mk ho7
 clear ho5 ho7
 refine qo ?_
 refine e_alloc S14 zro_30 ?_
 intro g15 w16 hg15 S17 B18
 replace HA5 := rb HA5 B18
 replace HA7 := rb HA7 B18
 replace HE5 := rb HE5 B18
 replace HE7 := rb HE7 B18
 replace HT := tb HT B18
 replace HL := vb HL B18
 refine qo ?_
 refine e_store (vs := [.int .i64 kd, .int .i64 fd, .int .i64 s0, .int .u32 s1, .bool b0, .slice Be5 m5.length de5, .int .i64 s3, .slice Be7 m7.length de7]) (cs' := [.int .i64 kd, .int .i64 fd, .int .i64 s0, .int .u32 s1, .bool b0, .slice Be5 m5.length de5, .int .i64 s3, .slice Be7 m7.length de7]) S17 rfl rfl rfl rfl sz_30 0 rfl (.inl rfl) rfl rfl rfl ?_
 intro w19 S20 E21
 replace HA5 := rx HA5 E21 (S17.blk 0 rfl)
 replace HA7 := rx HA7 E21 (S17.blk 0 rfl)
 replace HE5 := rx HE5 E21 (S17.blk 0 rfl)
 replace HE7 := rx HE7 E21 (S17.blk 0 rfl)
 replace HT := Aside0.mk (HT.out.move (fun k_ hk_ hl_ => E21.block k_ hl_ (fun e_ => by have o_ := S17.own _ (List.mem_of_getElem? (i := 0) rfl) rfl; try dsimp only at o_ e_; have b_ := hI.okN k_ hk_; omega)))
 replace HL := Aside0.mk (Kd.V_step HL.out (fun k_ hk_ hl_ => E21.block k_ hl_ (fun e_ => by have o_ := S17.own _ (List.mem_of_getElem? (i := 0) rfl) rfl; try dsimp only at o_ e_; have b_ := hI.PN k_ hk_; omega)))
 refine q_nil ?_
 refine x_seq ?_
 refine s_seq ?_
 refine s_seq ?_
 refine s_region ?_
 refine qv (v := .pointer (some ⟨g2, 0, none⟩)) (r_field fld_30_0 rfl rfl) ?_
 refine qv (v := .int .i64 kd) (r_load1 sz_3 rfl (S20.cell 1 rfl rfl)) ?_
 refine q_nil ?_
 refine x_seq ?_
 refine s_block ?_
 refine s_seq ?_
 refine s_region ?_
 refine qv (v := .bool false) (r_eql rfl rfl (beq_f (by omega))) ?_
 refine qv (v := .bool false) (r_assign rfl) ?_
 refine q_nil ?_
 refine x_seq ?_
 refine s_false rfl ?_
 refine s_seq ?_
 refine s_region ?_
 refine qv (v := .bool false) (r_eql rfl rfl (beq_f (by omega))) ?_
 refine qv (v := .bool false) (r_assign rfl) ?_
 refine q_nil ?_
 refine x_seq ?_
 refine s_false rfl ?_
 refine s_seq ?_
 refine s_region ?_
 refine qv (v := .bool false) (r_eql rfl rfl (beq_f (by omega))) ?_
 refine qv (v := .bool false) (r_assign rfl) ?_
 refine q_nil ?_
 refine x_seq ?_
 refine s_false rfl ?_
 refine s_seq ?_
 refine s_region ?_
 refine qv (v := .bool false) (r_eql rfl rfl (beq_f (by omega))) ?_
 refine qv (v := .bool false) (r_assign rfl) ?_
 refine q_nil ?_
 refine x_seq ?_
 refine s_false rfl ?_
 refine s_seq ?_
 refine s_region ?_
 refine qv (v := .bool true) (r_eql rfl rfl (beq_t (by omega))) ?_
 refine qv (v := .bool true) (r_assign rfl) ?_
 refine q_nil ?_
 refine x_seq ?_
 refine s_true rfl ?_
 refine s_seq ?_
 refine s_region ?_
 refine qv (v := .slice (some ad) ((ls ss).length) c) (r_move rfl) ?_
 refine qv (v := .pointer (some ⟨g2, 1, none⟩)) (r_field fld_30_1 rfl rfl) ?_
 refine qv (v := .int .i64 fd) (r_load1 sz_3 rfl (S20.cell 1 rfl rfl)) ?_
 refine qv (v := .pointer (some ⟨g2, 2, none⟩)) (r_field fld_30_2 rfl rfl) ?_
 refine qv (v := .pointer (some ⟨g2, 6, none⟩)) (r_field fld_28_3 rfl rfl) ?_
 refine qv (v := .int .i64 s3) (r_load1 sz_3 rfl (S20.cell 1 rfl rfl)) ?_
 refine qo ?_
 refine e_call (args := [.slice (some ad) ((ls ss).length) c, .int .i64 fd, .int .i64 s3]) Try.func47 (by kernel_rfl) rfl rfl ?_
 have hwr_ := S20.ext.size
 refine (RFc_ok HL.out (fun k_ hk_ => Nat.lt_of_lt_of_le (hI.PN k_ hk_) S20.ext.size) fd (by omega) h0 hs s3 r1 hG hM2).mono ?_
 rintro e w22 ⟨ad2, c2, rfl, hL2, hb⟩
 refine ⟨_, rfl, ?_⟩
 have B23 := hb
 have S24 := S20.call B23
 replace HA5 := rb HA5 B23
 replace HA7 := rb HA7 B23
 replace HE5 := rb HE5 B23
 replace HE7 := rb HE7 B23
 replace HT := tb HT B23
 replace HL := vb HL B23
 have HL2 := Aside0.mk hL2
 refine qv (v := .tuple #[.slice (some ad2) ((ls (ss.set fd.toNat (some (⟨s.f0, s.f1, s.f2, r1⟩ : Slot)))).length) c2, .int .i64 0]) (r_move rfl) ?_
 refine qv (v := .slice (some ad2) ((ls (ss.set fd.toNat (some (⟨s.f0, s.f1, s.f2, r1⟩ : Slot)))).length) c2) (r_extract rfl rfl) ?_
 refine qv (v := .int .i64 0) (r_extract rfl rfl) ?_
 refine qv (v := .slice (some ad2) ((ls (ss.set fd.toNat (some (⟨s.f0, s.f1, s.f2, r1⟩ : Slot)))).length) c2) (r_assign rfl) ?_
 refine qv (v := .int .i64 0) (r_assign rfl) ?_
 refine q_nil ?_
 refine x_seq ?_
 refine s_seq ?_
 refine s_region ?_
 refine qv (v := .slice (some ad2) ((ls (ss.set fd.toNat (some (⟨s.f0, s.f1, s.f2, r1⟩ : Slot)))).length) c2) (r_move rfl) ?_
 refine qv (v := .pointer (some ⟨g, 0, none⟩)) (r_move rfl) ?_
 refine qv (v := .pointer (some ⟨g15, 1, none⟩)) (r_field fld_30_1 rfl rfl) ?_
 refine qv (v := .int .i64 fd) (r_load1 sz_3 rfl (S24.cell 0 rfl rfl)) ?_
 refine qv (v := .pointer (some ⟨g15, 2, none⟩)) (r_field fld_30_2 rfl rfl) ?_
 refine qv (v := .pointer (some ⟨g15, 6, none⟩)) (r_field fld_28_3 rfl rfl) ?_
 refine qv (v := .int .i64 s3) (r_load1 sz_3 rfl (S24.cell 0 rfl rfl)) ?_
 refine qo ?_
 refine e_call (args := [.pointer (some ⟨g, 0, none⟩), .int .i64 fd, .int .i64 s3]) Try.func16 (by kernel_rfl) rfl rfl ?_
 have zbg15 := heap_lt (S24.blk 0 rfl)
 have zog15 := S24.own _ (List.mem_of_getElem? (i := 0) rfl) rfl
 dsimp only at zbg15 zog15
 have zbg2 := heap_lt (S24.blk 1 rfl)
 have zog2 := S24.own _ (List.mem_of_getElem? (i := 1) rfl) rfl
 dsimp only at zbg2 zog2
 have zx_ := hI.okN _ (hI.T.som _ q hq).2.1
 have hw1_ := S24.ext.size
 replace HA5 := Aside0.mk (show Kd.R (Kd.int .i64) 3 w22 w3.heap.size (fun k_ => w3.heap.size ≤ k_ ∧ k_ < w22.heap.size) _ _ from Kd.R_mono (Kd.R_bound HA5.out) (fun k_ h_ => ⟨h_.2.1, h_.2.2.1⟩))
 obtain ⟨_, hblk_⟩ : ∃ cs_, w22.heap[q]? = some (.cells cs_ 28 (0, 0)) := by obtain ⟨_, _, _, _, A_, c_, hb_, _⟩ := HT.out.som _ q hq; exact ⟨_, hb_⟩
 refine (LimitFcntls_ok HT.out fd h0 hq s hs s3 r1 hM).mono ?_
 rintro e w25 ⟨rfl, hT3, hE⟩
 refine ⟨_, rfl, ?_⟩
 have Sl_ : St w ok w22 [⟨g15, true, .cells #[.int .i64 kd, .int .i64 fd, .int .i64 s0, .int .u32 s1, .bool b0, .slice Be5 m5.length de5, .int .i64 s3, .slice Be7 m7.length de7] 30 (0, 0)⟩, ⟨g2, true, .cells #[.int .i64 kd, .int .i64 fd, .int .i64 s0, .int .u32 s1, .bool b0, .slice Ba5 m5.length da5, .int .i64 s3, .slice Ba7 m7.length da7] 30 (0, 0)⟩] := S24
 have S26 := Sl_.callX hE (fun x_ hx_ e_ => by simp only [List.mem_cons, List.not_mem_nil, or_false] at hx_; rcases hx_ with rfl | rfl; all_goals ((try dsimp only at e_); omega)) (fun k_ h1_ h2_ => by (try dsimp only at h2_); rw [h2_]; exact (hI.T.som _ q hq).2.1)
 replace HA5 := rx HA5 hE hblk_
 replace HA7 := rx HA7 hE hblk_
 replace HE5 := rx HE5 hE hblk_
 replace HE7 := rx HE7 hE hblk_
 replace HL := Aside0.mk (Kd.V_step HL.out (fun k_ hk_ hl_ => hE.block k_ hl_ (fun e_ => by (try dsimp only at e_); rw [e_] at hk_; exact hI.D _ (hI.T.som _ q hq).2.1 hk_)))
 replace HL2 := Aside0.mk (Kd.V_step HL2.out (fun k_ hk_ hl_ => hE.block k_ hl_ (fun e_ => by (try dsimp only at e_); rw [e_] at hk_; exact hk_.elim (hI.D _ (hI.T.som _ q hq).2.1) (fun h_ => by omega))))
 have hw2_ := hE.size
 clear HT
 have HT := Aside0.mk hT3
 have HZ := Aside0.mk (Nat.le_refl w25.heap.size)
 clear hE hblk_ hT3
 refine qv (v := .int .i64 0) (r_move rfl) ?_
 refine qv (v := .bool true) (r_eql rfl rfl (beq_t (by omega))) ?_
 refine qv (v := .slice (some ad2) ((ls (ss.set fd.toNat (some (⟨s.f0, s.f1, s.f2, r1⟩ : Slot)))).length) c2) (r_assign rfl) ?_
 refine qv (v := .bool true) (r_assign rfl) ?_
 refine q_nil ?_
 refine x_seq ?_
 refine s_ret ?_
 refine x_blk_ret ?_
 refine x_seq_ret ?_
 refine t_ret2 (v := .slice (some ad2) ((ls (ss.set fd.toNat (some (⟨s.f0, s.f1, s.f2, r1⟩ : Slot)))).length) c2) (v' := .bool true) rfl rfl rfl ?_
 exact post_new hI S26.ext HT.out HL2.out (by simp) (hI.G.set _ (fun s_ h_ => by obtain rfl := Option.some.inj h_; exact ⟨(hI.G _ _ hs).pos, (hI.G _ _ hs).rts, (hI.G _ _ hs).len⟩)) w.heap.size w.heap.size (Nat.le_refl _) (Nat.le_refl _) (fun k_ h_ hl_ => .inl h_) (fun k_ h_ hl_ => by exact h_.elim .inl (fun h2 => .inr (.inr (by omega))))
end Go.Proofs.Ytilfalpfanaanaa.PA

namespace Go.Proofs.Ytilfalpfanaanaa.PA
open Go.RowKit Go.Proofs.YtilfalpfanaanaaW.PrintWords Go.Proofs.YtilfalpfanaanaaW.PrintLast Go.Proofs.YtilfalpfanaanaaW.PrintMore Go.Proofs.Ytilfalpfanaanaa.Sx
set_option maxHeartbeats 8000000 in
set_option maxRecDepth 100000 in
theorem Does_put_no {w : World} {b g p : Nat} {ok : Nat → Prop} {qs : List (Option Nat)} {ss : List (Option Slot)} {P : Nat → Prop} {ad : Addr} {c : Nat} (hI : DInv w b g p ok qs ss P ad c) (kd fd s0 s1 : Int) (b0 : Bool) (A5 : Option Addr) (c5 : Nat) (l5 : List Int) (s3 : Int) (A7 : Option Addr) (c7 : Nat) (l7 : List Int) (hr5 : Kd.C (Kd.int .i64) w A5 l5.length l5) (hc5 : l5.length ≤ c5) (hr7 : Kd.C (Kd.int .i64) w A7 l7.length l7) (hc7 : l7.length ≤ c7) (hk1 : kd ≠ 1) (hk2 : kd ≠ 2) (hk3 : kd ≠ 3) (hk4 : kd ≠ 4) (hk5 : kd ≠ 5) (e : Int) (hT : ∀ w'', TabAt w'' b ok g p qs ss → ∀ A c, Kd.C (Kd.int .i64) w'' A (cut50 l5).length (cut50 l5) → (cut50 l5).length ≤ c → Calls Try.prog 11 #[.pointer (some ⟨g, 0, none⟩), .int .i64 fd, .agg #[.int .i64 s0, .int .u32 s1, .bool b0, .slice A (cut50 l5).length c, .int .i64 s3]] w'' fun e' w' => e' = .returned (.tuple #[.int .i64 0, .int .i64 e]) ∧ Below w''.heap.size w'' w') (hF : purlieuref13_Put.f 200 (ls ss) fd s0 s1 b0 (cut50 l5) s3 = some (ls ss, 0, e)) : Calls Try.prog 19 #[.pointer (some ⟨g, 0, none⟩), .slice (some ad) ((ls ss).length) c, .agg #[.int .i64 kd, .int .i64 fd, .int .i64 s0, .int .u32 s1, .bool b0, .slice A5 l5.length c5, .int .i64 s3, .slice A7 l7.length c7]] w (Post w b g p ok ss.length P) := by
 have HT := Aside0.mk hI.T
 have HL := Aside0.mk hI.L
 have hll := ls_len ss
 have hfew := hI.few
 have hqs := hI.T.len
 refine s_enter (n := 233) (L := [(0, .pointer (some ⟨g, 0, none⟩)), (1, .slice (some ad) ((ls ss).length) c), (2, .agg #[.int .i64 kd, .int .i64 fd, .int .i64 s0, .int .u32 s1, .bool b0, .slice A5 l5.length c5, .int .i64 s3, .slice A7 l7.length c7])]) Try.func19 rfl rfl rfl rfl ?_
 have S1 := St.start w (ok)
 refine s_seq ?_
 refine s_region ?_
 refine qo ?_
 refine e_box (cs := [.int .i64 kd, .int .i64 fd, .int .i64 s0, .int .u32 s1, .bool b0, .slice A5 l5.length c5, .int .i64 s3, .slice A7 l7.length c7]) S1 rfl rfl ?_
 intro g2 w3 hg2 S4 B5
 replace HT := tb HT B5
 replace HL := vb HL B5
 refine qv (v := .slice none 0 0) (r_assign rfl) ?_
 refine qv (v := .bool false) (r_assign rfl) ?_
 refine q_nil ?_
 refine x_seq ?_
 refine s_seq ?_
 refine s_region ?_
 refine qv (v := .agg #[.int .i64 kd, .int .i64 fd, .int .i64 s0, .int .u32 s1, .bool b0, .slice A5 l5.length c5, .int .i64 s3, .slice A7 l7.length c7]) (r_loadN (vs := [.int .i64 kd, .int .i64 fd, .int .i64 s0, .int .u32 s1, .bool b0, .slice A5 l5.length c5, .int .i64 s3, .slice A7 l7.length c7]) sz_30 rfl (S4.blk 0 rfl) rfl rfl) ?_
 refine qo ?_
 refine e_call (args := [.agg #[.int .i64 kd, .int .i64 fd, .int .i64 s0, .int .u32 s1, .bool b0, .slice A5 l5.length c5, .int .i64 s3, .slice A7 l7.length c7]]) Try.func13 (by kernel_rfl) rfl rfl ?_
 refine (own_cut kd fd s0 s1 b0 A5 c5 l5 s3 A7 c7 l7 _ (Kd.C_below hr5 B5) hc5 (Kd.C_below hr7 B5) hc7).mono ?_
 rintro e w6 ⟨m5, m7, Ba5, da5, Ba7, da7, ⟨hm5, hm7⟩, hl5, hl7, rfl, ho5, ho7, hb⟩
 refine ⟨_, rfl, ?_⟩
 have B7 := hb
 have S8 := S4.call B7
 replace HT := tb HT B7
 replace HL := vb HL B7
 have HA5 := Aside0.mk ho5
 have HA7 := Aside0.mk ho7
 clear ho5 ho7
 have HBa := S4.ext.size
 rw [← hm5] at hF hT
 refine qo ?_
 refine e_store (vs := [.int .i64 kd, .int .i64 fd, .int .i64 s0, .int .u32 s1, .bool b0, .slice Ba5 m5.length da5, .int .i64 s3, .slice Ba7 m7.length da7]) (cs' := [.int .i64 kd, .int .i64 fd, .int .i64 s0, .int .u32 s1, .bool b0, .slice Ba5 m5.length da5, .int .i64 s3, .slice Ba7 m7.length da7]) S8 rfl rfl rfl rfl sz_30 0 rfl (.inl rfl) rfl rfl rfl ?_
 intro w9 S10 E11
 replace HA5 := rx HA5 E11 (S8.blk 0 rfl)
 replace HA7 := rx HA7 E11 (S8.blk 0 rfl)
 replace HT := Aside0.mk (HT.out.move (fun k_ hk_ hl_ => E11.block k_ hl_ (fun e_ => by have o_ := S8.own _ (List.mem_of_getElem? (i := 0) rfl) rfl; try dsimp only at o_ e_; have b_ := hI.okN k_ hk_; omega)))
 replace HL := Aside0.mk (Kd.V_step HL.out (fun k_ hk_ hl_ => E11.block k_ hl_ (fun e_ => by have o_ := S8.own _ (List.mem_of_getElem? (i := 0) rfl) rfl; try dsimp only at o_ e_; have b_ := hI.PN k_ hk_; omega)))
 refine q_nil ?_
 refine x_seq ?_
 refine s_seq ?_
 refine s_region ?_
 refine qv (v := .agg #[.int .i64 kd, .int .i64 fd, .int .i64 s0, .int .u32 s1, .bool b0, .slice Ba5 m5.length da5, .int .i64 s3, .slice Ba7 m7.length da7]) (r_loadN (vs := [.int .i64 kd, .int .i64 fd, .int .i64 s0, .int .u32 s1, .bool b0, .slice Ba5 m5.length da5, .int .i64 s3, .slice Ba7 m7.length da7]) sz_30 rfl (S10.blk 0 rfl) rfl rfl) ?_
 refine qo ?_
 refine e_call (args := [.agg #[.int .i64 kd, .int .i64 fd, .int .i64 s0, .int .u32 s1, .bool b0, .slice Ba5 m5.length da5, .int .i64 s3, .slice Ba7 m7.length da7]]) Try.func13 (by kernel_rfl) rfl rfl ?_
 refine (own_same kd fd s0 s1 b0 Ba5 da5 m5 s3 Ba7 da7 m7 _ (R_C HA5.out).2 (R_C HA5.out).1 (R_C HA7.out).2 (R_C HA7.out).1 hl5 hl7).mono ?_
 rintro e w12 ⟨Be5, de5, Be7, de7, rfl, ho5, ho7, hb⟩
 refine ⟨_, rfl, ?_⟩
 have B13 := hb
 have S14 := S10.call B13
 replace HA5 := rb HA5 B13
 replace HA7 := rb HA7 B13
 replace HT := tb HT B13
 replace HL := vb HL B13
 have HE5 := Aside0.mk ho5
 have HE7 := Aside0.mk ho7
 clear ho5 ho7
 refine qo ?_
 refine e_alloc S14 zro_30 ?_
 intro g15 w16 hg15 S17 B18
 replace HA5 := rb HA5 B18
 replace HA7 := rb HA7 B18
 replace HE5 := rb HE5 B18
 replace HE7 := rb HE7 B18
 replace HT := tb HT B18
 replace HL := vb HL B18
 refine qo ?_
 refine e_store (vs := [.int .i64 kd, .int .i64 fd, .int .i64 s0, .int .u32 s1, .bool b0, .slice Be5 m5.length de5, .int .i64 s3, .slice Be7 m7.length de7]) (cs' := [.int .i64 kd, .int .i64 fd, .int .i64 s0, .int .u32 s1, .bool b0, .slice Be5 m5.length de5, .int .i64 s3, .slice Be7 m7.length de7]) S17 rfl rfl rfl rfl sz_30 0 rfl (.inl rfl) rfl rfl rfl ?_
 intro w19 S20 E21
 replace HA5 := rx HA5 E21 (S17.blk 0 rfl)
 replace HA7 := rx HA7 E21 (S17.blk 0 rfl)
 replace HE5 := rx HE5 E21 (S17.blk 0 rfl)
 replace HE7 := rx HE7 E21 (S17.blk 0 rfl)
 replace HT := Aside0.mk (HT.out.move (fun k_ hk_ hl_ => E21.block k_ hl_ (fun e_ => by have o_ := S17.own _ (List.mem_of_getElem? (i := 0) rfl) rfl; try dsimp only at o_ e_; have b_ := hI.okN k_ hk_; omega)))
 replace HL := Aside0.mk (Kd.V_step HL.out (fun k_ hk_ hl_ => E21.block k_ hl_ (fun e_ => by have o_ := S17.own _ (List.mem_of_getElem? (i := 0) rfl) rfl; try dsimp only at o_ e_; have b_ := hI.PN k_ hk_; omega)))
 refine q_nil ?_
 refine x_seq ?_
 refine s_seq ?_
 refine s_seq ?_
 refine s_region ?_
 refine qv (v := .pointer (some ⟨g2, 0, none⟩)) (r_field fld_30_0 rfl rfl) ?_
 refine qv (v := .int .i64 kd) (r_load1 sz_3 rfl (S20.cell 1 rfl rfl)) ?_
 refine q_nil ?_
 refine x_seq ?_
 refine s_block ?_
 refine s_seq ?_
 refine s_region ?_
 refine qv (v := .bool false) (r_eql rfl rfl (beq_f (by omega))) ?_
 refine qv (v := .bool false) (r_assign rfl) ?_
 refine q_nil ?_
 refine x_seq ?_
 refine s_false rfl ?_
 refine s_seq ?_
 refine s_region ?_
 refine qv (v := .bool false) (r_eql rfl rfl (beq_f (by omega))) ?_
 refine qv (v := .bool false) (r_assign rfl) ?_
 refine q_nil ?_
 refine x_seq ?_
 refine s_false rfl ?_
 refine s_seq ?_
 refine s_region ?_
 refine qv (v := .bool false) (r_eql rfl rfl (beq_f (by omega))) ?_
 refine qv (v := .bool false) (r_assign rfl) ?_
 refine q_nil ?_
 refine x_seq ?_
 refine s_false rfl ?_
 refine s_seq ?_
 refine s_region ?_
 refine qv (v := .bool false) (r_eql rfl rfl (beq_f (by omega))) ?_
 refine qv (v := .bool false) (r_assign rfl) ?_
 refine q_nil ?_
 refine x_seq ?_
 refine s_false rfl ?_
 refine s_seq ?_
 refine s_region ?_
 refine qv (v := .bool false) (r_eql rfl rfl (beq_f (by omega))) ?_
 refine qv (v := .bool false) (r_assign rfl) ?_
 refine q_nil ?_
 refine x_seq ?_
 refine s_false rfl ?_
 refine s_skip ?_
 refine x_blk ?_
 refine x_seq ?_
 refine s_seq ?_
 refine s_region ?_
 refine qv (v := .pointer (some ⟨g, 0, none⟩)) (r_move rfl) ?_
 refine qv (v := .pointer (some ⟨g15, 1, none⟩)) (r_field fld_30_1 rfl rfl) ?_
 refine qv (v := .int .i64 fd) (r_load1 sz_3 rfl (S20.cell 0 rfl rfl)) ?_
 refine qv (v := .pointer (some ⟨g15, 2, none⟩)) (r_field fld_30_2 rfl rfl) ?_
 refine qv (v := .agg #[.int .i64 s0, .int .u32 s1, .bool b0, .slice Be5 m5.length de5, .int .i64 s3]) (r_loadN (vs := [.int .i64 s0, .int .u32 s1, .bool b0, .slice Be5 m5.length de5, .int .i64 s3]) sz_28 rfl (S20.blk 0 rfl) rfl rfl) ?_
 refine qo ?_
 refine e_call (args := [.pointer (some ⟨g, 0, none⟩), .int .i64 fd, .agg #[.int .i64 s0, .int .u32 s1, .bool b0, .slice Be5 m5.length de5, .int .i64 s3]]) Try.func11 (by kernel_rfl) rfl rfl ?_
 refine (hT _ HT.out Be5 de5 (R_C HE5.out).2 (R_C HE5.out).1).mono ?_
 rintro e w22 ⟨rfl, hb⟩
 refine ⟨_, rfl, ?_⟩
 have B23 := hb
 have S24 := S20.call B23
 replace HA5 := rb HA5 B23
 replace HA7 := rb HA7 B23
 replace HE5 := rb HE5 B23
 replace HE7 := rb HE7 B23
 replace HT := tb HT B23
 replace HL := vb HL B23
 refine qv (v := .tuple #[.int .i64 0, .int .i64 e]) (r_move rfl) ?_
 refine qv (v := .int .i64 0) (r_extract rfl rfl) ?_
 refine qv (v := .int .i64 e) (r_extract rfl rfl) ?_
 refine qv (v := .int .i64 0) (r_assign rfl) ?_
 refine qv (v := .int .i64 e) (r_assign rfl) ?_
 refine q_nil ?_
 refine x_seq ?_
 refine s_seq ?_
 refine s_region ?_
 refine qv (v := .slice (some ad) ((ls ss).length) c) (r_move rfl) ?_
 refine qv (v := .pointer (some ⟨g2, 1, none⟩)) (r_field fld_30_1 rfl rfl) ?_
 refine qv (v := .int .i64 fd) (r_load1 sz_3 rfl (S24.cell 1 rfl rfl)) ?_
 refine qv (v := .pointer (some ⟨g2, 2, none⟩)) (r_field fld_30_2 rfl rfl) ?_
 refine qv (v := .agg #[.int .i64 s0, .int .u32 s1, .bool b0, .slice Ba5 m5.length da5, .int .i64 s3]) (r_loadN (vs := [.int .i64 s0, .int .u32 s1, .bool b0, .slice Ba5 m5.length da5, .int .i64 s3]) sz_28 rfl (S24.blk 1 rfl) rfl rfl) ?_
 refine qo ?_
 refine e_call (args := [.slice (some ad) ((ls ss).length) c, .int .i64 fd, .agg #[.int .i64 s0, .int .u32 s1, .bool b0, .slice Ba5 m5.length da5, .int .i64 s3]]) Try.func48 (by kernel_rfl) rfl rfl ?_
 replace HA5 := Aside0.mk (show Kd.R (Kd.int .i64) 3 w22 w3.heap.size (fun k_ => w3.heap.size ≤ k_) _ _ from Kd.R_mono (Kd.R_bound HA5.out) (fun k_ h_ => h_.2.1))
 have hz4_ := S24.ext.size
 refine (purlieuref13_Put.calls 200 P (some ad) c (ls ss) fd s0 s1 b0 _ Ba5 da5 m5 s3 (ls ss) 0 e _ HL.out (Kd.R_V (base' := 0) HA5.out) hF).mono ?_
 rintro e w25 ⟨v, rfl, hV2, hb⟩
 obtain ⟨Ax2, c2, rfl⟩ := Kd.V_slice hV2
 obtain ⟨ad2, rfl⟩ : ∃ ad2, Ax2 = some ad2 := by cases Ax2 with | some a => exact ⟨a, rfl⟩ | none => exact absurd (Kd.C_get (Kd.V_reads' hV2).2.2 z28 0 (Int.le_refl 0) (by have h_ := hll; omega)) (by rintro ⟨_, _, he_, _⟩; cases he_)
 refine ⟨_, rfl, ?_⟩
 have B26 := hb
 have S27 := S24.call B26
 replace HA5 := rb HA5 B26
 replace HA7 := rb HA7 B26
 replace HE5 := rb HE5 B26
 replace HE7 := rb HE7 B26
 replace HT := tb HT B26
 replace HL := vb HL B26
 have HL2 := Aside0.mk (show LV w25 _ ad2 c2 (ls ss) from hV2)
 refine qv (v := .tuple #[.slice (some ad2) ((ls ss).length) c2, .int .i64 0, .int .i64 e]) (r_move rfl) ?_
 refine qv (v := .slice (some ad2) ((ls ss).length) c2) (r_extract rfl rfl) ?_
 refine qv (v := .int .i64 0) (r_extract rfl rfl) ?_
 refine qv (v := .int .i64 e) (r_extract rfl rfl) ?_
 refine qv (v := .slice (some ad2) ((ls ss).length) c2) (r_assign rfl) ?_
 refine qv (v := .int .i64 0) (r_assign rfl) ?_
 refine qv (v := .int .i64 e) (r_assign rfl) ?_
 refine q_nil ?_
 refine x_seq ?_
 refine s_seq ?_
 refine s_region ?_
 refine qv (v := .slice (some ad2) ((ls ss).length) c2) (r_move rfl) ?_
 refine qv (v := .int .i64 0) (r_move rfl) ?_
 refine qv (v := .int .i64 0) (r_move rfl) ?_
 refine qv (v := .bool true) (r_eql rfl rfl (beq_t (by omega))) ?_
 refine qv (v := .bool true) (r_move rfl) ?_
 refine q_val (v := .int .i64 e) (wan rfl rfl rfl rfl) rfl (r_move rfl) ?_
 refine q_val (v := .int .i64 e) (wan rfl rfl rfl rfl) rfl (r_move rfl) ?_
 refine q_val (v := .bool true) (wan rfl rfl rfl rfl) rfl (r_eql rfl rfl (beq_t (rfl))) ?_
 refine qv (v := .bool true) (r_pick_t rfl rfl) ?_
 refine qv (v := .slice (some ad2) ((ls ss).length) c2) (r_assign rfl) ?_
 refine qv (v := .bool true) (r_assign rfl) ?_
 refine q_nil ?_
 refine x_seq ?_
 refine s_ret ?_
 refine t_ret2 (v := .slice (some ad2) ((ls ss).length) c2) (v' := .bool true) rfl rfl rfl ?_
 exact post_new hI S27.ext HT.out HL2.out rfl hI.G w.heap.size w.heap.size (Nat.le_refl _) (Nat.le_refl _) (fun k_ h_ hl_ => .inl h_) (fun k_ h_ hl_ => by rcases h_ with (h_ | h_) | h_ <;> first | exact .inl h_ | (right; right; omega))
set_option maxHeartbeats 8000000 in
set_option maxRecDepth 100000 in
theorem Does_put_ok {w : World} {b g p : Nat} {ok : Nat → Prop} {qs : List (Option Nat)} {ss : List (Option Slot)} {P : Nat → Prop} {ad : Addr} {c : Nat} (hI : DInv w b g p ok qs ss P ad c) (kd fd s0 s1 : Int) (b0 : Bool) (A5 : Option Addr) (c5 : Nat) (l5 : List Int) (s3 : Int) (A7 : Option Addr) (c7 : Nat) (l7 : List Int) (hr5 : Kd.C (Kd.int .i64) w A5 l5.length l5) (hc5 : l5.length ≤ c5) (hr7 : Kd.C (Kd.int .i64) w A7 l7.length l7) (hc7 : l7.length ≤ c7) (hk1 : kd ≠ 1) (hk2 : kd ≠ 2) (hk3 : kd ≠ 3) (hk4 : kd ≠ 4) (hk5 : kd ≠ 5) (hcan : canS (⟨s0, s1, ⟨b0, cut50 l5⟩, s3⟩ : Slot) = true) (hs1 : 0 ≤ s1) (h0 : 0 ≤ fd) (h1 : fd < (ss.length : Int)) (hn : nfree (qs.drop fd.toNat) < qs.length - fd.toNat) (z : Int) (hz : fd + nfree (qs.drop fd.toNat) = z) (hF : purlieuref13_Put.f 200 (ls ss) fd s0 s1 b0 (cut50 l5) s3 = some (ls (ss.set z.toNat (some (⟨s0, s1, ⟨b0, cut50 l5⟩, s3⟩ : Slot))), z, 0)) : Calls Try.prog 19 #[.pointer (some ⟨g, 0, none⟩), .slice (some ad) ((ls ss).length) c, .agg #[.int .i64 kd, .int .i64 fd, .int .i64 s0, .int .u32 s1, .bool b0, .slice A5 l5.length c5, .int .i64 s3, .slice A7 l7.length c7]] w (Post w b g p ok ss.length P) := by
 have HT := Aside0.mk hI.T
 have HL := Aside0.mk hI.L
 have hll := ls_len ss
 have hfew := hI.few
 have hqs := hI.T.len
 refine s_enter (n := 233) (L := [(0, .pointer (some ⟨g, 0, none⟩)), (1, .slice (some ad) ((ls ss).length) c), (2, .agg #[.int .i64 kd, .int .i64 fd, .int .i64 s0, .int .u32 s1, .bool b0, .slice A5 l5.length c5, .int .i64 s3, .slice A7 l7.length c7])]) Try.func19 rfl rfl rfl rfl ?_
 have S1 := St.start w (ok)
 refine s_seq ?_
 refine s_region ?_
 refine qo ?_
 refine e_box (cs := [.int .i64 kd, .int .i64 fd, .int .i64 s0, .int .u32 s1, .bool b0, .slice A5 l5.length c5, .int .i64 s3, .slice A7 l7.length c7]) S1 rfl rfl ?_
 intro g2 w3 hg2 S4 B5
 replace HT := tb HT B5
 replace HL := vb HL B5
 refine qv (v := .slice none 0 0) (r_assign rfl) ?_
 refine qv (v := .bool false) (r_assign rfl) ?_
 refine q_nil ?_
 refine x_seq ?_
 refine s_seq ?_
 refine s_region ?_
 refine qv (v := .agg #[.int .i64 kd, .int .i64 fd, .int .i64 s0, .int .u32 s1, .bool b0, .slice A5 l5.length c5, .int .i64 s3, .slice A7 l7.length c7]) (r_loadN (vs := [.int .i64 kd, .int .i64 fd, .int .i64 s0, .int .u32 s1, .bool b0, .slice A5 l5.length c5, .int .i64 s3, .slice A7 l7.length c7]) sz_30 rfl (S4.blk 0 rfl) rfl rfl) ?_
 refine qo ?_
 refine e_call (args := [.agg #[.int .i64 kd, .int .i64 fd, .int .i64 s0, .int .u32 s1, .bool b0, .slice A5 l5.length c5, .int .i64 s3, .slice A7 l7.length c7]]) Try.func13 (by kernel_rfl) rfl rfl ?_
 refine (own_cut kd fd s0 s1 b0 A5 c5 l5 s3 A7 c7 l7 _ (Kd.C_below hr5 B5) hc5 (Kd.C_below hr7 B5) hc7).mono ?_
 rintro e w6 ⟨m5, m7, Ba5, da5, Ba7, da7, ⟨hm5, hm7⟩, hl5, hl7, rfl, ho5, ho7, hb⟩
 refine ⟨_, rfl, ?_⟩
 have B7 := hb
 have S8 := S4.call B7
 replace HT := tb HT B7
 replace HL := vb HL B7
 have HA5 := Aside0.mk ho5
 have HA7 := Aside0.mk ho7
 clear ho5 ho7
 have HBa := S4.ext.size
 rw [← hm5] at hF hcan
 refine qo ?_
 refine e_store (vs := [.int .i64 kd, .int .i64 fd, .int .i64 s0, .int .u32 s1, .bool b0, .slice Ba5 m5.length da5, .int .i64 s3, .slice Ba7 m7.length da7]) (cs' := [.int .i64 kd, .int .i64 fd, .int .i64 s0, .int .u32 s1, .bool b0, .slice Ba5 m5.length da5, .int .i64 s3, .slice Ba7 m7.length da7]) S8 rfl rfl rfl rfl sz_30 0 rfl (.inl rfl) rfl rfl rfl ?_
 intro w9 S10 E11
 replace HA5 := rx HA5 E11 (S8.blk 0 rfl)
 replace HA7 := rx HA7 E11 (S8.blk 0 rfl)
 replace HT := Aside0.mk (HT.out.move (fun k_ hk_ hl_ => E11.block k_ hl_ (fun e_ => by have o_ := S8.own _ (List.mem_of_getElem? (i := 0) rfl) rfl; try dsimp only at o_ e_; have b_ := hI.okN k_ hk_; omega)))
 replace HL := Aside0.mk (Kd.V_step HL.out (fun k_ hk_ hl_ => E11.block k_ hl_ (fun e_ => by have o_ := S8.own _ (List.mem_of_getElem? (i := 0) rfl) rfl; try dsimp only at o_ e_; have b_ := hI.PN k_ hk_; omega)))
 refine q_nil ?_
 refine x_seq ?_
 refine s_seq ?_
 refine s_region ?_
 refine qv (v := .agg #[.int .i64 kd, .int .i64 fd, .int .i64 s0, .int .u32 s1, .bool b0, .slice Ba5 m5.length da5, .int .i64 s3, .slice Ba7 m7.length da7]) (r_loadN (vs := [.int .i64 kd, .int .i64 fd, .int .i64 s0, .int .u32 s1, .bool b0, .slice Ba5 m5.length da5, .int .i64 s3, .slice Ba7 m7.length da7]) sz_30 rfl (S10.blk 0 rfl) rfl rfl) ?_
 refine qo ?_
 refine e_call (args := [.agg #[.int .i64 kd, .int .i64 fd, .int .i64 s0, .int .u32 s1, .bool b0, .slice Ba5 m5.length da5, .int .i64 s3, .slice Ba7 m7.length da7]]) Try.func13 (by kernel_rfl) rfl rfl ?_
 refine (own_same kd fd s0 s1 b0 Ba5 da5 m5 s3 Ba7 da7 m7 _ (R_C HA5.out).2 (R_C HA5.out).1 (R_C HA7.out).2 (R_C HA7.out).1 hl5 hl7).mono ?_
 rintro e w12 ⟨Be5, de5, Be7, de7, rfl, ho5, ho7, hb⟩
 refine ⟨_, rfl, ?_⟩
 have B13 := hb
 have S14 := S10.call B13
 replace HA5 := rb HA5 B13
 replace HA7 := rb HA7 B13
 replace HT := tb HT B13
 replace HL := vb HL B13
 have HE5 := Aside0.mk ho5
 have HE7 := Aside0.mk ho7
 clear ho5 ho7
 refine qo ?_
 refine e_alloc S14 zro_30 ?_
 intro g15 w16 hg15 S17 B18
 replace HA5 := rb HA5 B18
 replace HA7 := rb HA7 B18
 replace HE5 := rb HE5 B18
 replace HE7 := rb HE7 B18
 replace HT := tb HT B18
 replace HL := vb HL B18
 refine qo ?_
 refine e_store (vs := [.int .i64 kd, .int .i64 fd, .int .i64 s0, .int .u32 s1, .bool b0, .slice Be5 m5.length de5, .int .i64 s3, .slice Be7 m7.length de7]) (cs' := [.int .i64 kd, .int .i64 fd, .int .i64 s0, .int .u32 s1, .bool b0, .slice Be5 m5.length de5, .int .i64 s3, .slice Be7 m7.length de7]) S17 rfl rfl rfl rfl sz_30 0 rfl (.inl rfl) rfl rfl rfl ?_
 intro w19 S20 E21
 replace HA5 := rx HA5 E21 (S17.blk 0 rfl)
 replace HA7 := rx HA7 E21 (S17.blk 0 rfl)
 replace HE5 := rx HE5 E21 (S17.blk 0 rfl)
 replace HE7 := rx HE7 E21 (S17.blk 0 rfl)
 replace HT := Aside0.mk (HT.out.move (fun k_ hk_ hl_ => E21.block k_ hl_ (fun e_ => by have o_ := S17.own _ (List.mem_of_getElem? (i := 0) rfl) rfl; try dsimp only at o_ e_; have b_ := hI.okN k_ hk_; omega)))
 replace HL := Aside0.mk (Kd.V_step HL.out (fun k_ hk_ hl_ => E21.block k_ hl_ (fun e_ => by have o_ := S17.own _ (List.mem_of_getElem? (i := 0) rfl) rfl; try dsimp only at o_ e_; have b_ := hI.PN k_ hk_; omega)))
 refine q_nil ?_
 refine x_seq ?_
 refine s_seq ?_
 refine s_seq ?_
 refine s_region ?_
 refine qv (v := .pointer (some ⟨g2, 0, none⟩)) (r_field fld_30_0 rfl rfl) ?_
 refine qv (v := .int .i64 kd) (r_load1 sz_3 rfl (S20.cell 1 rfl rfl)) ?_
 refine q_nil ?_
 refine x_seq ?_
 refine s_block ?_
 refine s_seq ?_
 refine s_region ?_
 refine qv (v := .bool false) (r_eql rfl rfl (beq_f (by omega))) ?_
 refine qv (v := .bool false) (r_assign rfl) ?_
 refine q_nil ?_
 refine x_seq ?_
 refine s_false rfl ?_
 refine s_seq ?_
 refine s_region ?_
 refine qv (v := .bool false) (r_eql rfl rfl (beq_f (by omega))) ?_
 refine qv (v := .bool false) (r_assign rfl) ?_
 refine q_nil ?_
 refine x_seq ?_
 refine s_false rfl ?_
 refine s_seq ?_
 refine s_region ?_
 refine qv (v := .bool false) (r_eql rfl rfl (beq_f (by omega))) ?_
 refine qv (v := .bool false) (r_assign rfl) ?_
 refine q_nil ?_
 refine x_seq ?_
 refine s_false rfl ?_
 refine s_seq ?_
 refine s_region ?_
 refine qv (v := .bool false) (r_eql rfl rfl (beq_f (by omega))) ?_
 refine qv (v := .bool false) (r_assign rfl) ?_
 refine q_nil ?_
 refine x_seq ?_
 refine s_false rfl ?_
 refine s_seq ?_
 refine s_region ?_
 refine qv (v := .bool false) (r_eql rfl rfl (beq_f (by omega))) ?_
 refine qv (v := .bool false) (r_assign rfl) ?_
 refine q_nil ?_
 refine x_seq ?_
 refine s_false rfl ?_
 refine s_skip ?_
 refine x_blk ?_
 refine x_seq ?_
 refine s_seq ?_
 refine s_region ?_
 refine qv (v := .pointer (some ⟨g, 0, none⟩)) (r_move rfl) ?_
 refine qv (v := .pointer (some ⟨g15, 1, none⟩)) (r_field fld_30_1 rfl rfl) ?_
 refine qv (v := .int .i64 fd) (r_load1 sz_3 rfl (S20.cell 0 rfl rfl)) ?_
 refine qv (v := .pointer (some ⟨g15, 2, none⟩)) (r_field fld_30_2 rfl rfl) ?_
 refine qv (v := .agg #[.int .i64 s0, .int .u32 s1, .bool b0, .slice Be5 m5.length de5, .int .i64 s3]) (r_loadN (vs := [.int .i64 s0, .int .u32 s1, .bool b0, .slice Be5 m5.length de5, .int .i64 s3]) sz_28 rfl (S20.blk 0 rfl) rfl rfl) ?_
 refine qo ?_
 refine e_call (args := [.pointer (some ⟨g, 0, none⟩), .int .i64 fd, .agg #[.int .i64 s0, .int .u32 s1, .bool b0, .slice Be5 m5.length de5, .int .i64 s3]]) Try.func11 (by kernel_rfl) rfl rfl ?_
 have zbg15 := heap_lt (S20.blk 0 rfl)
 have zog15 := S20.own _ (List.mem_of_getElem? (i := 0) rfl) rfl
 dsimp only at zbg15 zog15
 have zbg2 := heap_lt (S20.blk 1 rfl)
 have zog2 := S20.own _ (List.mem_of_getElem? (i := 1) rfl) rfl
 dsimp only at zbg2 zog2
 have zx_ := hI.okN _ hI.T.low.2.2.2
 have hw1_ := S20.ext.size
 replace HA5 := Aside0.mk (show Kd.R (Kd.int .i64) 3 w19 w3.heap.size (fun k_ => w3.heap.size ≤ k_ ∧ k_ < w19.heap.size) _ _ from Kd.R_mono (Kd.R_bound HA5.out) (fun k_ h_ => ⟨h_.2.1, h_.2.2.1⟩))
 obtain ⟨_, hblk_⟩ : ∃ cs_, w19.heap[p]? = some (.cells cs_ 71 (0, 0)) := ⟨_, HT.out.row⟩
 refine (Put_at (TabAt.mono HT.out (ok' := fun k => ok k ∨ w19.heap.size ≤ k) (fun k h => .inl h)) (fun k h => .inr h) fd h0 (by omega) hn (⟨s0, s1, ⟨b0, m5⟩, s3⟩ : Slot) Be5 de5 (R_C HE5.out).2 (R_C HE5.out).1 200 (by rw [wcanS (⟨s0, s1, ⟨b0, m5⟩, s3⟩ : Slot) hl5, hcan]) (by show m5.length * 8 ≤ _; omega) z hz).mono ?_
 rintro e w22 ⟨rfl, ⟨q3, hT3⟩, hE⟩
 refine ⟨_, rfl, ?_⟩
 have Sl_ : St w ok w19 [⟨g15, true, .cells #[.int .i64 kd, .int .i64 fd, .int .i64 s0, .int .u32 s1, .bool b0, .slice Be5 m5.length de5, .int .i64 s3, .slice Be7 m7.length de7] 30 (0, 0)⟩, ⟨g2, true, .cells #[.int .i64 kd, .int .i64 fd, .int .i64 s0, .int .u32 s1, .bool b0, .slice Ba5 m5.length da5, .int .i64 s3, .slice Ba7 m7.length da7] 30 (0, 0)⟩] := S20
 have S23 := Sl_.callX hE (fun x_ hx_ e_ => by simp only [List.mem_cons, List.not_mem_nil, or_false] at hx_; rcases hx_ with rfl | rfl; all_goals ((try dsimp only at e_); omega)) (fun k_ h1_ h2_ => by (try dsimp only at h2_); rw [h2_]; exact hI.T.low.2.2.2)
 replace HA5 := rx HA5 hE hblk_
 replace HA7 := rx HA7 hE hblk_
 replace HE5 := rx HE5 hE hblk_
 replace HE7 := rx HE7 hE hblk_
 replace HL := Aside0.mk (Kd.V_step HL.out (fun k_ hk_ hl_ => hE.block k_ hl_ (fun e_ => by (try dsimp only at e_); rw [e_] at hk_; exact hI.D _ hI.T.low.2.2.2 hk_)))
 have hw2_ := hE.size
 clear HT
 have HT := Aside0.mk hT3.bound
 have HZ := Aside0.mk (Nat.le_refl w22.heap.size)
 have hokb : ∀ k, ((ok k ∨ w19.heap.size ≤ k) ∧ k < w22.heap.size) → k < w.heap.size ∨ (w19.heap.size ≤ k ∧ k < w22.heap.size) := fun k h => h.1.elim (fun h1 => .inl (hI.okN k h1)) (fun h1 => .inr ⟨h1, h.2⟩)
 clear hE hblk_ hT3
 refine qv (v := .tuple #[.int .i64 z, .int .i64 0]) (r_move rfl) ?_
 refine qv (v := .int .i64 z) (r_extract rfl rfl) ?_
 refine qv (v := .int .i64 0) (r_extract rfl rfl) ?_
 refine qv (v := .int .i64 z) (r_assign rfl) ?_
 refine qv (v := .int .i64 0) (r_assign rfl) ?_
 refine q_nil ?_
 refine x_seq ?_
 refine s_seq ?_
 refine s_region ?_
 refine qv (v := .slice (some ad) ((ls ss).length) c) (r_move rfl) ?_
 refine qv (v := .pointer (some ⟨g2, 1, none⟩)) (r_field fld_30_1 rfl rfl) ?_
 refine qv (v := .int .i64 fd) (r_load1 sz_3 rfl (S23.cell 1 rfl rfl)) ?_
 refine qv (v := .pointer (some ⟨g2, 2, none⟩)) (r_field fld_30_2 rfl rfl) ?_
 refine qv (v := .agg #[.int .i64 s0, .int .u32 s1, .bool b0, .slice Ba5 m5.length da5, .int .i64 s3]) (r_loadN (vs := [.int .i64 s0, .int .u32 s1, .bool b0, .slice Ba5 m5.length da5, .int .i64 s3]) sz_28 rfl (S23.blk 1 rfl) rfl rfl) ?_
 refine qo ?_
 refine e_call (args := [.slice (some ad) ((ls ss).length) c, .int .i64 fd, .agg #[.int .i64 s0, .int .u32 s1, .bool b0, .slice Ba5 m5.length da5, .int .i64 s3]]) Try.func48 (by kernel_rfl) rfl rfl ?_
 have hz3_ := HZ.out
 have hz4_ := S23.ext.size
 refine (purlieuref13_Put.calls 200 P (some ad) c (ls ss) fd s0 s1 b0 _ Ba5 da5 m5 s3 (ls (ss.set z.toNat (some (⟨s0, s1, ⟨b0, m5⟩, s3⟩ : Slot)))) z 0 _ HL.out (Kd.R_V (base' := 0) HA5.out) hF).mono ?_
 rintro e w24 ⟨v, rfl, hV2, hb⟩
 obtain ⟨Ax2, c2, rfl⟩ := Kd.V_slice hV2
 obtain ⟨ad2, rfl⟩ : ∃ ad2, Ax2 = some ad2 := by cases Ax2 with | some a => exact ⟨a, rfl⟩ | none => exact absurd (Kd.C_get (Kd.V_reads' hV2).2.2 z28 0 (Int.le_refl 0) (by have h_ := ls_len (ss.set z.toNat (some (⟨s0, s1, ⟨b0, m5⟩, s3⟩ : Slot))); rw [List.length_set] at h_; omega)) (by rintro ⟨_, _, he_, _⟩; cases he_)
 refine ⟨_, rfl, ?_⟩
 have B25 := hb
 have S26 := S23.call B25
 replace HA5 := rb HA5 B25
 replace HA7 := rb HA7 B25
 replace HE5 := rb HE5 B25
 replace HE7 := rb HE7 B25
 replace HT := tb HT B25
 replace HL := vb HL B25
 replace HZ := zb HZ B25
 have HL2 := Aside0.mk (show LV w24 _ ad2 c2 (ls (ss.set z.toNat (some (⟨s0, s1, ⟨b0, m5⟩, s3⟩ : Slot)))) from hV2)
 refine qv (v := .tuple #[.slice (some ad2) ((ls (ss.set z.toNat (some (⟨s0, s1, ⟨b0, m5⟩, s3⟩ : Slot)))).length) c2, .int .i64 z, .int .i64 0]) (r_move rfl) ?_
 refine qv (v := .slice (some ad2) ((ls (ss.set z.toNat (some (⟨s0, s1, ⟨b0, m5⟩, s3⟩ : Slot)))).length) c2) (r_extract rfl rfl) ?_
 refine qv (v := .int .i64 z) (r_extract rfl rfl) ?_
 refine qv (v := .int .i64 0) (r_extract rfl rfl) ?_
 refine qv (v := .slice (some ad2) ((ls (ss.set z.toNat (some (⟨s0, s1, ⟨b0, m5⟩, s3⟩ : Slot)))).length) c2) (r_assign rfl) ?_
 refine qv (v := .int .i64 z) (r_assign rfl) ?_
 refine qv (v := .int .i64 0) (r_assign rfl) ?_
 refine q_nil ?_
 refine x_seq ?_
 refine s_seq ?_
 refine s_region ?_
 refine qv (v := .slice (some ad2) ((ls (ss.set z.toNat (some (⟨s0, s1, ⟨b0, m5⟩, s3⟩ : Slot)))).length) c2) (r_move rfl) ?_
 refine qv (v := .int .i64 z) (r_move rfl) ?_
 refine qv (v := .int .i64 z) (r_move rfl) ?_
 refine qv (v := .bool true) (r_eql rfl rfl (beq_t (rfl))) ?_
 refine qv (v := .bool true) (r_move rfl) ?_
 refine q_val (v := .int .i64 0) (wan rfl rfl rfl rfl) rfl (r_move rfl) ?_
 refine q_val (v := .int .i64 0) (wan rfl rfl rfl rfl) rfl (r_move rfl) ?_
 refine q_val (v := .bool true) (wan rfl rfl rfl rfl) rfl (r_eql rfl rfl (beq_t (by omega))) ?_
 refine qv (v := .bool true) (r_pick_t rfl rfl) ?_
 refine qv (v := .slice (some ad2) ((ls (ss.set z.toNat (some (⟨s0, s1, ⟨b0, m5⟩, s3⟩ : Slot)))).length) c2) (r_assign rfl) ?_
 refine qv (v := .bool true) (r_assign rfl) ?_
 refine q_nil ?_
 refine x_seq ?_
 refine s_ret ?_
 refine t_ret2 (v := .slice (some ad2) ((ls (ss.set z.toNat (some (⟨s0, s1, ⟨b0, m5⟩, s3⟩ : Slot)))).length) c2) (v' := .bool true) rfl rfl rfl ?_
 exact post_new hI S26.ext HT.out HL2.out (by simp) (hI.G.set _ (fun s_ h_ => by obtain rfl := Option.some.inj h_; exact good_can hcan hs1 hl5)) w19.heap.size w22.heap.size hw1_ hw2_ (fun k_ h_ hl_ => h_.1.elim .inl (fun h2 => .inr ⟨h2, h_.2⟩)) (fun k_ h_ hl_ => by rcases h_ with (h_ | h_) | h_ <;> first | exact .inl h_ | (right; left; omega) | (right; right; omega))
end Go.Proofs.Ytilfalpfanaanaa.PA

namespace Go.Proofs.Ytilfalpfanaanaa.PA
open Go.RowKit Go.Proofs.YtilfalpfanaanaaW.PrintWords Go.Proofs.YtilfalpfanaanaaW.PrintLast Go.Proofs.YtilfalpfanaanaaW.PrintMore Go.Proofs.Ytilfalpfanaanaa.Sx
set_option maxRecDepth 100000
theorem same_below {w : World} {f : Nat} {args : Array Value} {v : Value} (h : Calls Try.prog f args w fun e w' => e = .returned v ∧ w' = w) : Calls Try.prog f args w fun e w' => e = .returned v ∧ Below w.heap.size w w' :=
  h.mono fun e w' hh => ⟨hh.1, by rw [hh.2]; exact Below.refl _ _⟩
theorem subset_is' (a b : Int) : rights_Subset.f a b = some (decide (Go.bits .andNot .u32 a b = 0)) := by
  unfold rights_Subset.f
  congr 1
theorem put_can {ss : List (Option Slot)} {fd s0 s1 s3 : Int} {b0 : Bool} {m : List Int} (hl : m.length ≤ 50) (h : canS ⟨s0, s1, ⟨b0, m⟩, s3⟩ = false) : purlieuref13_Put.f 200 (ls ss) fd s0 s1 b0 m s3 = some (ls ss, 0, 22) := by
  unfold purlieuref13_Put.f
  rw [rcanS ⟨s0, s1, ⟨b0, m⟩, s3⟩ hl, h]; rfl
theorem put_free {ss : List (Option Slot)} {fd s0 s1 s3 e : Int} {b0 : Bool} {m : List Int} (hl : m.length ≤ 50) (h : canS ⟨s0, s1, ⟨b0, m⟩, s3⟩ = true) (hf : purlieuref13_Free.f 200 (ls ss) fd = some (0, e)) (he : e ≠ 0) : purlieuref13_Put.f 200 (ls ss) fd s0 s1 b0 m s3 = some (ls ss, 0, e) := by
  unfold purlieuref13_Put.f
  rw [rcanS ⟨s0, s1, ⟨b0, m⟩, s3⟩ hl, h]
  simp only [Option.bind_some, if_true, hf]
  rw [if_neg he]
theorem put_okf {ss : List (Option Slot)} (hlen : ss.length ≤ 64) {fd z s0 s1 s3 : Int} {b0 : Bool} {m : List Int} (hl : m.length ≤ 50) (h : canS ⟨s0, s1, ⟨b0, m⟩, s3⟩ = true) (hf : purlieuref13_Free.f 200 (ls ss) fd = some (z, 0)) (h0 : 0 ≤ z) (h1 : z < (ss.length : Int)) :
    purlieuref13_Put.f 200 (ls ss) fd s0 s1 b0 m s3 = some (ls (ss.set z.toNat (some (⟨s0, s1, ⟨b0, m⟩, s3⟩ : Slot))), z, 0) := by
  have hw : purlieuref13_With.f (ls ss) z s0 s1 b0 m s3 = some (ls (ss.set z.toNat (some (⟨s0, s1, ⟨b0, m⟩, s3⟩ : Slot)))) := rwith ss hlen z h0 h1 (some (⟨s0, s1, ⟨b0, m⟩, s3⟩ : Slot))
  unfold purlieuref13_Put.f
  rw [rcanS ⟨s0, s1, ⟨b0, m⟩, s3⟩ hl, h]
  simp only [Option.bind_some, if_true, hf, hw]
theorem does_calls {w : World} {b g p : Nat} {ok : Nat → Prop} {qs : List (Option Nat)} {ss : List (Option Slot)} {P : Nat → Prop} {ad : Addr} {c : Nat} (hI : DInv w b g p ok qs ss P ad c) {x : ActV} {A5 A7 : Option Addr} {c5 c7 : Nat} (hA : ActAt w x A5 c5 A7 c7) :
    Calls Try.prog 19 #[.pointer (some ⟨g, 0, none⟩), .slice (some ad) (ls ss).length c, .agg (x.cells A5 c5 A7 c7).toArray] w (Post w b g p ok ss.length P) := by
  obtain ⟨kd, fd, s0, s1, b0, l5, s3, l7⟩ := x
  have h5 := hA.r5; have h7 := hA.r7; have k5 := hA.k5; have k7 := hA.k7
  have ha : 0 ≤ s1 := u32_nonneg hA.w1
  have hfew := hI.few
  have hqs := hI.T.len
  have h50 : (cut50 l7).length ≤ 200 := by have := cut50_len l7; omega
  have hc5 := cut50_len l5
  have hslot : (∀ s, 0 ≤ fd → ss[fd.toNat]? ≠ some (some s)) ∨ ∃ s, 0 ≤ fd ∧ ss[fd.toNat]? = some (some s) := by
    by_cases h : ∃ s, 0 ≤ fd ∧ ss[fd.toNat]? = some (some s)
    · exact .inr h
    · exact .inl fun s h0 hs => h ⟨s, h0, hs⟩
  by_cases hk1 : kd = 1
  · cases hcan : canS (⟨s0, s1, ⟨b0, cut50 l5⟩, s3⟩ : Slot)
    · exact Does_set_bad hI kd fd s0 s1 b0 A5 c5 l5 s3 A7 c7 l7 h5 k5 h7 k7 hk1 hcan
    by_cases hf : fd < 0
    · exact Does_set_low hI kd fd s0 s1 b0 A5 c5 l5 s3 A7 c7 l7 h5 k5 h7 k7 hk1 hcan hf
    by_cases hf2 : (ss.length : Int) ≤ fd
    · exact Does_set_high hI kd fd s0 s1 b0 A5 c5 l5 s3 A7 c7 l7 h5 k5 h7 k7 hk1 hcan (by omega) hf2
    rcases hslot with hno | ⟨s, h0, hs⟩
    · refine Does_set_none hI kd fd s0 s1 b0 A5 c5 l5 s3 A7 c7 l7 h5 k5 h7 k7 hk1 hcan ha (by omega) ?_
      cases e : ss[fd.toNat]? with
      | none => have := List.getElem?_eq_none_iff.1 e; omega
      | some y => cases y with
        | none => rfl
        | some s => exact absurd e (hno s (by omega))
    · obtain ⟨q, hq⟩ := tab_yes hI.T hs
      exact Does_set_some hI kd fd s0 s1 b0 A5 c5 l5 s3 A7 c7 l7 h5 k5 h7 k7 hk1 hcan ha h0 hs hq
  by_cases hk2 : kd = 2
  · rcases hslot with hno | ⟨s, h0, hs⟩
    · exact Does_take_no hI kd fd s0 s1 b0 A5 c5 l5 s3 A7 c7 l7 h5 k5 h7 k7 hk2 hno
    · obtain ⟨q, hq⟩ := tab_yes hI.T hs
      exact Does_take_ok hI kd fd s0 s1 b0 A5 c5 l5 s3 A7 c7 l7 h5 k5 h7 k7 hk2 h0 hs hq
  by_cases hk3 : kd = 3
  · rcases hslot with hno | ⟨s, h0, hs⟩
    · exact Does_Limit_no hI kd fd s0 s1 b0 A5 c5 l5 s3 A7 c7 l7 h5 k5 h7 k7 hk3 9 (fun w'' hL hP => RLimit_no hL hP fd s1 9 (rget_bad ss hI.G fd s1 hno) (by decide))
        (fun w'' hT => same_below (Limit_err _ fd 9 (by decide) s1 (get_bad hT fd (tab_no hI.T hno))))
    · obtain ⟨q, hq⟩ := tab_yes hI.T hs
      by_cases hz : Go.bits .andNot .u32 s1 s.f1 = 0
      · exact Does_Limit_ok hI kd fd s0 s1 b0 A5 c5 l5 s3 A7 c7 l7 h5 k5 h7 k7 hk3 h0 hs hq ha (by rw [subset_is', decide_eq_true hz]) (by rw [rget_some ss hI.G fd s1 h0 hs ha, if_pos hz])
      · exact Does_Limit_no hI kd fd s0 s1 b0 A5 c5 l5 s3 A7 c7 l7 h5 k5 h7 k7 hk3 93 (fun w'' hL hP => RLimit_no hL hP fd s1 93 (by rw [rget_some ss hI.G fd s1 h0 hs ha, if_neg hz]) (by decide))
          (fun w'' hT => Limit_cap hT fd h0 hq s hs s1 (by rw [subset_is', decide_eq_false hz]))
  by_cases hk4 : kd = 4
  · rcases hslot with hno | ⟨s, h0, hs⟩
    · exact Does_LimitIoctls_no hI kd fd s0 s1 b0 A5 c5 l5 s3 A7 c7 l7 h5 k5 h7 k7 hk4 9 (fun w'' hL hP B d hB hd => RIo_no hL hP fd hB hd 9 (rget_bad ss hI.G fd 0 hno) (by decide))
        (fun w'' hT B d hB hd => same_below (LimitIoctls_err _ fd 9 (by decide) B (cut50 l7) d (get_bad hT fd (tab_no hI.T hno))))
    · obtain ⟨q, hq⟩ := tab_yes hI.T hs
      have hg := rget_zero ss hI.G fd h0 hs
      have hw := wlim_eq s.f2.f0 s.f2.f1 (cut50 l7) (hI.G _ _ hs).len h50
      have hr := rlim_eq s.f2.f0 s.f2.f1 (cut50 l7) (hI.G _ _ hs).len h50
      by_cases hz : (limR s.f2.f0 s.f2.f1 (cut50 l7)).2.2 = 0
      · exact Does_LimitIoctls_ok hI kd fd s0 s1 b0 A5 c5 l5 s3 A7 c7 l7 h5 k5 h7 k7 hk4 h0 hs hq _ _ (lim_len _ _ _ h50) hg (by rw [hw, ← hz]) (by rw [hr, ← hz])
      · exact Does_LimitIoctls_no hI kd fd s0 s1 b0 A5 c5 l5 s3 A7 c7 l7 h5 k5 h7 k7 hk4 _ (fun w'' hL hP B d hB hd => RIo_bad hL hP fd hfew.2 h0 hs hB hd _ _ _ hg hr hz)
          (fun w'' hT B d hB hd => LimitIoctls_bad hT fd h0 hq s hs 600 B (cut50 l7) d hB hd _ _ _ hw hz)
  by_cases hk5 : kd = 5
  · rcases hslot with hno | ⟨s, h0, hs⟩
    · exact Does_LimitFcntls_no hI kd fd s0 s1 b0 A5 c5 l5 s3 A7 c7 l7 h5 k5 h7 k7 hk5 9 (fun w'' hL hP => RFc_no hL hP fd s3 9 (rget_bad ss hI.G fd 0 hno) (by decide))
        (fun w'' hT => same_below (LimitFcntls_err _ fd 9 (by decide) s3 (get_bad hT fd (tab_no hI.T hno))))
    · obtain ⟨q, hq⟩ := tab_yes hI.T hs
      have hg := rget_zero ss hI.G fd h0 hs
      have hw := mask_eq s.f3 s3
      have hr := rmask_eq s.f3 s3 400 (by omega)
      by_cases hz : (maskV s.f3 s3).2 = 0
      · exact Does_LimitFcntls_ok hI kd fd s0 s1 b0 A5 c5 l5 s3 A7 c7 l7 h5 k5 h7 k7 hk5 h0 hs hq s3 hg (by rw [hw, mask_val _ _ hz]) (by rw [hr, mask_val _ _ hz])
      · exact Does_LimitFcntls_no hI kd fd s0 s1 b0 A5 c5 l5 s3 A7 c7 l7 h5 k5 h7 k7 hk5 _ (fun w'' hL hP => RFc_bad hL hP fd hfew.2 h0 hs s3 _ _ hg hr hz)
          (fun w'' hT => LimitFcntls_bad hT fd h0 hq s hs s3 _ _ hw hz)
  cases hcan : canS (⟨s0, s1, ⟨b0, cut50 l5⟩, s3⟩ : Slot)
  · exact Does_put_no hI kd fd s0 s1 b0 A5 c5 l5 s3 A7 c7 l7 h5 k5 h7 k7 hk1 hk2 hk3 hk4 hk5 22 (fun w'' hT B d hB hd => Put_bad _ fd ⟨s0, s1, ⟨b0, cut50 l5⟩, s3⟩ B d hB hd 200 (by rw [wcanS _ hc5, hcan])) (put_can hc5 hcan)
  have hcw : slots_can.f 200 s0 s1 b0 (cut50 l5) s3 = some true := by rw [← hcan]; exact wcanS ⟨s0, s1, ⟨b0, cut50 l5⟩, s3⟩ hc5
  by_cases hf : fd < 0 ∨ (ss.length : Int) ≤ fd
  · exact Does_put_no hI kd fd s0 s1 b0 A5 c5 l5 s3 A7 c7 l7 h5 k5 h7 k7 hk1 hk2 hk3 hk4 hk5 22 (fun w'' hT B d hB hd => Put_err _ fd 22 (by decide) ⟨s0, s1, ⟨b0, cut50 l5⟩, s3⟩ B d hB hd 200 hcw (fun w' hb => free_out (hT.below hb) fd (by omega))) (put_free hc5 hcan (rfree_out ss fd hf) (by decide))
  have hr := rfree_in hI.T hI.G fd (by omega) (by omega)
  by_cases hn : nfree (qs.drop fd.toNat) < qs.length - fd.toNat
  · have hr2 : purlieuref13_Free.f 200 (ls ss) fd = some (fd + nfree (qs.drop fd.toNat), 0) := by rw [hr]; unfold freeR; rw [if_pos hn]
    exact Does_put_ok hI kd fd s0 s1 b0 A5 c5 l5 s3 A7 c7 l7 h5 k5 h7 k7 hk1 hk2 hk3 hk4 hk5 hcan ha (by omega) (by omega) hn _ rfl (put_okf hfew.2 hc5 hcan hr2 (by omega) (by omega))
  · have hr2 : freeR qs fd = (0, 24) := by unfold freeR; rw [if_neg hn]
    exact Does_put_no hI kd fd s0 s1 b0 A5 c5 l5 s3 A7 c7 l7 h5 k5 h7 k7 hk1 hk2 hk3 hk4 hk5 24 (fun w'' hT B d hB hd => Put_err _ fd 24 (by decide) ⟨s0, s1, ⟨b0, cut50 l5⟩, s3⟩ B d hB hd 200 hcw (fun w' hb => by
      have := free_in (hT.below hb) fd (by omega) (by omega)
      rw [hr2] at this; exact this)) (put_free hc5 hcan (by rw [hr, hr2]) (by decide))
end Go.Proofs.Ytilfalpfanaanaa.PA

namespace Go.Proofs.Ytilfalpfanaanaa.PA
open Go.RowKit Go.Proofs.YtilfalpfanaanaaW.PrintWords Go.Proofs.YtilfalpfanaanaaW.PrintLast Go.Proofs.YtilfalpfanaanaaW.PrintMore Go.Proofs.Ytilfalpfanaanaa.Sx
open Go.ChangeShapes Go.WideShapes Go.ChangeAt Go.Joins
set_option maxRecDepth 100000
def none5 (m : Nat) : List (Option Slot) := List.replicate m none
theorem ls_none (m : Nat) : ls (none5 m) = List.replicate m z28 := by simp [ls, none5, toS]
theorem good_none (m : Nat) : Good (none5 m) := fun i s h => by
  unfold none5 at h
  rw [List.getElem?_replicate] at h
  split at h <;> cases h
theorem make_list (m : Nat) (hm0 : 0 < m) (hm : m ≤ 64) (w : World) : ∃ ad c w', (Instr.makeSlice 47 (.int .i64 ((m : Nat) : Int)) (.int .i64 ((m : Nat) : Int))).run Try.prog w = .ok (.slice (some ad) (ls (none5 m)).length c) w' ∧ LV w' (fun k => k = w.heap.size) ad c (ls (none5 m)) ∧ Below w.heap.size w w' ∧ w'.heap.size = w.heap.size + 1 := by
  have hi : (Try.prog.info? 28).map (fun i => (i.zero, i.size, decide (0 < i.bytes ∧ i.bytes ≤ 1000))) = some (some (.agg #[.int .i64 0, .int .u32 0, .bool false, .slice none 0 0, .int .i64 0]), 5, true) := by kernel_rfl
  obtain ⟨i0, hi0, hz⟩ := Option.map_eq_some_iff.1 hi
  simp only [Prod.mk.injEq] at hz
  obtain ⟨hz0, hz1, hz2⟩ := hz
  have hb := of_decide_eq_true hz2
  have hle : i0.bytes * m ≤ 1000 * 64 := Nat.mul_le_mul hb.2 hm
  have hr := run_make (P := Try.prog) w 47 28 i0 _ Try.underlying47 hi0 hz0 .i64 .i64 (m : Int) (m : Int) (by omega) (by omega) (by
      have h3 : ((i0.bytes * m : Nat) : Int) ≤ 281474976710656 := by omega
      rwa [Int.natCast_mul] at h3) (by omega)
  simp only [Int.toNat_natCast] at hr
  rw [hz1] at hr
  have hM : k28.M w w.heap.size (fun _ => False) z28 (Value.agg #[.int .i64 0, .int .u32 0, .bool false, .slice none 0 0, .int .i64 0]).cells.toList := k28_mkM w w.heap.size (fun _ => False) z28 (Kd.R_nil (Kd.int .i64) 3 w w.heap.size (fun _ => False))
  have hrep := Kd.reps_made (size := 5) (z0 := z28) (z := Value.agg #[.int .i64 0, .int .u32 0, .bool false, .slice none 0 0, .int .i64 0]) rfl (by decide) hM m
  generalize hcs : madeCells (Value.agg #[.int .i64 0, .int .u32 0, .bool false, .slice none 0 0, .int .i64 0]).cells (m * 5) = cells at hr hrep
  have hR : Kd.R k28 28 (w.alloc (.cells cells 28)) w.heap.size (fun k => k = w.heap.size) (.slice (some ⟨w.heap.size, 0, none⟩) (List.replicate m z28).length m) (List.replicate m z28) := by
    refine ⟨fun k hk => ?_, cells.toList, ?_, ?_⟩
    · have : w.heap.size = k := by simpa [Value.ownBlock] using hk
      exact this.symm
    · have h2 := World.ownsRow_lit (base := w.heap.size) (e := 28) (size := 5) w cells m (Nat.le_refl _) (by simp only [maxLen]; omega) (by have := hrep.1; simp at this; rw [this])
      rw [List.length_replicate]
      have h3 : (w.alloc (.cells cells 28)).ownsRow w.heap.size 28 5 (.slice (some ⟨w.heap.size, 0, none⟩) m m) m cells.toList := by simpa using h2
      exact h3
    · refine hrep.imp_ (fun p c hp => k28.M_mono (fun k hk => hk.elim) (Kd.M_alloc hp _))
  refine ⟨⟨w.heap.size, 0, none⟩, m, w.alloc (.cells cells 28), ?_, ?_, (Below.refl _ _).alloc (Nat.le_refl _) _, Array.size_push _⟩
  · rw [ls_none, List.length_replicate]; exact hr
  · rw [ls_none]; exact Kd.R_V hR
def ActsAt (W : World) (A : Option Addr) (l : List ActV) : Prop := ∀ (i : Nat) x, l[i]? = some x → ∃ ad A5 c5 A7 c7, A = some ad ∧ (∀ j u, (x.cells A5 c5 A7 c7)[j]? = some u → W.cell? (ad.add (i * 8 + j)) = some u) ∧ ActAt W x A5 c5 A7 c7
theorem ActAt.below {w w' : World} {x : ActV} {A5 c5 A7 c7} (h : ActAt w x A5 c5 A7 c7) (hb : Below w.heap.size w w') : ActAt w' x A5 c5 A7 c7 := ⟨Kd.C_below h.r5 hb, h.k5, Kd.C_below h.r7 hb, h.k7, h.wfd, h.w0, h.w1, h.w3, h.wkd⟩
theorem ActsAt.below {w w' : World} {A : Option Addr} {l : List ActV} (h : ActsAt w A l) (hb : Below w.heap.size w w') : ActsAt w' A l := fun i x hx => by
  obtain ⟨ad, A5, c5, A7, c7, h1, h2, h3⟩ := h i x hx
  refine ⟨ad, A5, c5, A7, c7, h1, fun j u hj => ?_, h3.below hb⟩
  have h4 := h2 j u hj
  cases e : w.heap[(ad.add (i * 8 + j)).block]? with
  | none => simp [World.cell?, e] at h4
  | some ob => rw [Sx.cell_raw rfl e ((hb.block _ (heap_lt e)).trans e)]; exact h4
theorem trod_acts {H : Type} {enc : TypeId × Value → H} {W : World} {fuel : Nat} {A : Option Addr} {n c : Nat} {x : DataW H × List MemPlace} (h : DataW.trod enc Try.prog W 0 (fun _ => true) true fuel 46 [.slice A n c] = some x) : ∃ l : List ActV, n = l.length ∧ ActsAt W A l := by
  have h8 : Try.prog.cellsOf 30 = 8 := by kernel_rfl
  rcases Go.Deep.open_slice Try.underlying46 h with ⟨hcs, _⟩ | ⟨a, len, cap, m, k, D, Pl, hcs, _, hl, _, hm, _, hall⟩
  · injection hcs with hcs; injection hcs with h1 h2 h3
    subst h1 h2 h3
    exact ⟨[], rfl, fun i x hx => by simp at hx⟩
  · injection hcs with hcs; injection hcs with h1 h2 h3
    subst h1 h2 h3
    simp only [if_true] at hm
    have each : ∀ i, i < n → ∃ v : ActV, ∃ A5 c5 A7 c7, (∀ j u, (v.cells A5 c5 A7 c7)[j]? = some u → W.cell? (a.add (i * 8 + j)) = some u) ∧ ActAt W v A5 c5 A7 c7 := by
      intro i hi
      obtain ⟨cs', h4, h5⟩ := hall i (by omega)
      obtain ⟨v, A5, c5, A7, c7, rfl, hact⟩ := trod_act h5
      rw [h8] at h4
      obtain ⟨_, h6, h7⟩ := World.cells?_some h4
      refine ⟨v, A5, c5, A7, c7, fun j u hj => ?_, hact⟩
      have hj8 : j < 8 := (List.getElem?_eq_some_iff.1 hj).1
      rw [← Sx.add_add', h7 j hj8]; exact hj
    refine ⟨(List.range n).map fun i => if h : i < n then Classical.choose (each i h) else ⟨0, 0, 0, 0, false, [], 0, []⟩, by simp, fun i v hv => ?_⟩
    rw [List.getElem?_map] at hv
    have hi : i < n := by
      cases e : (List.range n)[i]? with
      | none => rw [e] at hv; cases hv
      | some q => have := (List.getElem?_eq_some_iff.1 e).1; simpa using this
    rw [List.getElem?_range hi] at hv
    simp only [Option.map_some, Option.some.injEq] at hv
    rw [dif_pos hi] at hv
    subst hv
    obtain ⟨A5, c5, A7, c7, h9, h10⟩ := Classical.choose_spec (each i hi)
    exact ⟨a, A5, c5, A7, c7, rfl, h9, h10⟩
theorem r_indexH {P : Program} {n : Nat} {L : List (Nat × Value)} {w : World} {x y : Operand} {ty : TypeId} {pos : String} {af : Array Edge} {gd : Option (Nat × Bool)} {dst : Option Tmp} {ad : Addr} {A : Option Addr} {t : TypeId} {e s m c : Nat} {ki : IntKind} {q : Int} {j : Nat} (hu : Sx.elemOf P t = some (e, s)) (hA : A = some ad) (hx : ev n L x = .slice A m c) (hy : ev n L y = .int ki q) (h0 : 0 ≤ q) (h1 : q < m) (hj : q.toNat * s = j) :
    (execOp (ev n L) ⟨dst, .indexAddr t x y, ty, pos, af, gd⟩).run P w = .ok (.value (.pointer (some (ad.add j)))) w := by
  subst hA; exact r_indexA hu hx hy h0 h1 hj
theorem dinv_mk {w : World} {b g p m : Nat} {ok P : Nat → Prop} {ad : Addr} {c : Nat} (T : TabAt w b ok g p (List.replicate m none) (List.replicate m none)) (L : LV w P ad c (ls (none5 m))) (D : ∀ k, ok k → P k → False) (ho : ∀ k, ok k → k < w.heap.size) (hp : ∀ k, P k → k < w.heap.size) :
    DInv w b g p ok (List.replicate m none) (none5 m) P ad c := ⟨T, L, D, ho, hp, good_none m⟩
end Go.Proofs.Ytilfalpfanaanaa.PA

namespace Go.Proofs.Ytilfalpfanaanaa.PA
open Go.RowKit Go.Proofs.YtilfalpfanaanaaW.PrintWords Go.Proofs.YtilfalpfanaanaaW.PrintLast Go.Proofs.YtilfalpfanaanaaW.PrintMore Go.Proofs.Ytilfalpfanaanaa.Sx
set_option maxHeartbeats 8000000 in
set_option maxRecDepth 100000 in
theorem lives_calls (w : World) : Calls Try.prog 10 #[] w fun e w' => e = .returned (.bool true) ∧ Below w.heap.size w w' := by
 refine s_enter (n := 42) (L := []) Try.func10 rfl rfl rfl rfl ?_
 have S1 := St.start w no
 refine s_seq ?_
 refine s_region ?_
 refine qv (v := .bool false) (r_assign rfl) ?_
 refine q_nil ?_
 refine x_seq ?_
 refine s_seq ?_
 refine s_region ?_
 refine qo ?_
 refine e_call (args := [.int .i64 2]) Try.func8 (by kernel_rfl) rfl rfl ?_
 refine (New_ok 2 (by omega) (by omega) _).mono ?_
 rintro e w2 ⟨g, p, rfl, hT, hb⟩
 refine ⟨_, rfl, ?_⟩
 have B3 := hb
 have S4 := S1.call B3
 have HT := Aside0.mk hT
 have hp : w.heap.size ≤ p := hT.low.2.1
 clear hT
 refine qv (v := .pointer (some ⟨g, 0, none⟩)) (r_assign rfl) ?_
 refine q_nil ?_
 refine x_seq ?_
 refine s_seq ?_
 refine s_seq ?_
 refine s_region ?_
 refine qv (v := .pointer (some ⟨g, 0, none⟩)) (r_move rfl) ?_
 refine qv (v := .bool false) (r_peql ptr_31 rfl rfl rfl) ?_
 refine q_nil ?_
 refine x_seq ?_
 refine s_false rfl ?_
 refine s_skip ?_
 refine x_seq ?_
 refine s_seq ?_
 refine s_region ?_
 refine qv (v := .pointer (some ⟨g, 0, none⟩)) (r_move rfl) ?_
 refine qo ?_
 refine e_call (args := [.int .i64 7]) Try.func25 (by kernel_rfl) rfl rfl ?_
 refine (slots_Full.calls 7 7 4294967295 true [] 120 _ (full_eq 7)).mono ?_
 rintro e w5 ⟨v, rfl, ho, hb⟩
 obtain ⟨Av, cv, rfl⟩ := Kd.R_slice ho
 refine ⟨_, rfl, ?_⟩
 have B6 := hb
 have S7 := S4.call B6
 have HT2 := Aside0.mk (HT.out.below B6)
 have HV := R_C ho
 obtain ⟨kc, hkc⟩ := can_full 7 (by decide)
 refine qo ?_
 refine e_call (args := [.pointer (some ⟨g, 0, none⟩), .int .i64 0, .agg #[.int .i64 7, .int .u32 4294967295, .bool true, .slice Av 0 cv, .int .i64 120]]) Try.func11 (by kernel_rfl) rfl rfl ?_
 refine (Put_at HT2.out (fun _ _ => trivial) 0 (by omega) (by simp) (by decide) (fullS 7) Av cv HV.2 HV.1 kc hkc (by decide) 0 rfl).mono ?_
 rintro e w8 ⟨rfl, ⟨q, hT3⟩, hE⟩
 refine ⟨_, rfl, ?_⟩
 have S9 := S7.callX hE (by intro x hx; cases hx) (fun k_ h1_ h2_ => by subst h2_; exact absurd hp (by omega))
 have HT3 := Aside0.mk hT3
 clear hE hT3
 refine qv (v := .tuple #[.int .i64 0, .int .i64 0]) (r_move rfl) ?_
 refine qv (v := .int .i64 0) (r_extract rfl rfl) ?_
 refine qv (v := .int .i64 0) (r_extract rfl rfl) ?_
 refine qv (v := .int .i64 0) (r_assign rfl) ?_
 refine qv (v := .int .i64 0) (r_assign rfl) ?_
 refine q_nil ?_
 refine x_seq ?_
 refine s_seq ?_
 refine s_region ?_
 refine qv (v := .pointer (some ⟨g, 0, none⟩)) (r_move rfl) ?_
 refine qo ?_
 refine e_call (args := [.pointer (some ⟨g, 0, none⟩), .int .i64 0, .int .u32 1]) Try.func14 (by kernel_rfl) rfl rfl ?_
 have hq_ := (HT3.out.som 0 q rfl).1
 refine (Limit_ok HT3.out 0 (by omega) (q := q) rfl (fullS 7) rfl 1 (by decide +kernel)).mono ?_
 rintro e w10 ⟨rfl, hT4, hE⟩
 refine ⟨_, rfl, ?_⟩
 have S11 := S9.callX hE (by intro x hx; cases hx) (fun k_ h1_ h2_ => by subst h2_; exact absurd hq_ (by omega))
 have HT4 := Aside0.mk hT4
 clear hE hT4
 refine qv (v := .int .i64 0) (r_assign rfl) ?_
 refine q_nil ?_
 refine x_seq ?_
 refine s_seq ?_
 refine s_region ?_
 refine qv (v := .pointer (some ⟨g, 0, none⟩)) (r_move rfl) ?_
 refine qo ?_
 refine e_call (args := [.pointer (some ⟨g, 0, none⟩), .int .i64 0, .int .u32 1]) Try.func12 (by kernel_rfl) rfl rfl ?_
 refine (Get_ok HT4.out 0 1 (by omega) (s := limS (fullS 7) 1) rfl (by decide +kernel) (by decide +kernel)).mono ?_
 rintro e w12 ⟨v, rfl, ho, hb⟩
 rw [limS_one] at *
 obtain ⟨A5, c5, rfl⟩ := Kd.R_slice ho
 refine ⟨_, rfl, ?_⟩
 have B13 := hb
 have S14 := S11.call B13
 have HV5 := R_C ho
 have HB5 := S14
 have HBg := Aside0.mk (Below.refl w12.heap.size w12)
 refine qv (v := .tuple #[.agg #[.int .i64 7, .int .u32 1, .bool false, .slice A5 0 c5, .int .i64 0], .int .i64 0]) (r_move rfl) ?_
 refine qv (v := .agg #[.int .i64 7, .int .u32 1, .bool false, .slice A5 0 c5, .int .i64 0]) (r_extract rfl rfl) ?_
 refine qv (v := .int .i64 0) (r_extract rfl rfl) ?_
 refine qo ?_
 refine e_alloc S14 zro_28 ?_
 intro g15 w16 hg15 S17 B18
 have HBn := Aside0.mk (below_step HBg.out B18)
 clear HBg
 have HBg := HBn
 clear HBn
 refine qo ?_
 refine e_store (vs := [.int .i64 7, .int .u32 1, .bool false, .slice A5 0 c5, .int .i64 0]) (cs' := [.int .i64 7, .int .u32 1, .bool false, .slice A5 0 c5, .int .i64 0]) S17 rfl rfl rfl rfl sz_28 0 rfl (.inl rfl) rfl rfl rfl ?_
 intro w19 S20 E21
 have HBn := Aside0.mk (below_own HBg.out E21 (by omega))
 clear HBg
 have HBg := HBn
 clear HBn
 refine qv (v := .int .i64 0) (r_assign rfl) ?_
 refine q_nil ?_
 refine x_seq ?_
 refine s_seq ?_
 refine s_region ?_
 refine qv (v := .int .i64 0) (r_move rfl) ?_
 refine qv (v := .bool true) (r_eql rfl rfl (beq_t (by omega))) ?_
 refine qv (v := .bool true) (r_move rfl) ?_
 refine q_val (v := .int .i64 0) (wan rfl rfl rfl rfl) rfl (r_move rfl) ?_
 refine q_val (v := .bool true) (wan rfl rfl rfl rfl) rfl (r_eql rfl rfl (beq_t (by omega))) ?_
 refine qv (v := .bool true) (r_pick_t rfl rfl) ?_
 refine qv (v := .bool true) (r_move rfl) ?_
 refine q_val (v := .int .i64 0) (wan rfl rfl rfl rfl) rfl (r_move rfl) ?_
 refine q_val (v := .bool true) (wan rfl rfl rfl rfl) rfl (r_eql rfl rfl (beq_t (by omega))) ?_
 refine qv (v := .bool true) (r_pick_t rfl rfl) ?_
 refine qv (v := .bool true) (r_move rfl) ?_
 refine q_val (v := .int .i64 0) (wan rfl rfl rfl rfl) rfl (r_move rfl) ?_
 refine q_val (v := .bool true) (wan rfl rfl rfl rfl) rfl (r_eql rfl rfl (beq_t (by omega))) ?_
 refine qv (v := .bool true) (r_pick_t rfl rfl) ?_
 refine qv (v := .bool true) (r_move rfl) ?_
 refine q_val (v := .agg #[.int .i64 7, .int .u32 1, .bool false, .slice A5 0 c5, .int .i64 0]) (wan rfl rfl rfl rfl) rfl (r_loadN (vs := [.int .i64 7, .int .u32 1, .bool false, .slice A5 0 c5, .int .i64 0]) sz_28 rfl (S20.blk 0 rfl) rfl rfl) ?_
 refine q_val (v := .agg #[.int .i64 7, .int .u32 1, .bool false, .slice none 0 0, .int .i64 0]) (wan rfl rfl rfl rfl) rfl (r_build (ps := [(0, .int .i64 7), (1, .int .u32 1)]) rfl (by kernel_rfl)) ?_
 refine q_of (wan rfl rfl rfl rfl) ?_
 refine e_call (args := [.agg #[.int .i64 7, .int .u32 1, .bool false, .slice A5 0 c5, .int .i64 0], .agg #[.int .i64 7, .int .u32 1, .bool false, .slice none 0 0, .int .i64 0]]) Try.func18 (by kernel_rfl) rfl rfl ?_
 refine (purlieuref13_One.calls 1 7 1 false A5 c5 [] 0 7 1 false none 0 [] 0 true _ (Kd.C_below HV5.2 HBg.out) HV5.1 (Kd.C_below (R_C (Kd.R_nil (Kd.int .i64) 3 w19 0 (fun _ => True))).2 (Below.refl _ _)) (Nat.le_refl _) (by decide +kernel)).mono ?_
 rintro e w22 ⟨rfl, hb⟩
 refine ⟨_, rfl, ?_⟩
 have B23 := hb
 have S24 := S20.call B23
 refine qv (v := .bool true) (r_pick_t rfl rfl) ?_
 refine qv (v := .bool true) (r_assign rfl) ?_
 refine q_nil ?_
 refine x_seq ?_
 refine s_ret ?_
 refine t_ret1 (v := .bool true) rfl rfl ?_
 exact ⟨rfl, S24.ext.below⟩
end Go.Proofs.Ytilfalpfanaanaa.PA

namespace Go.Proofs.Ytilfalpfanaanaa.PA
open Go.RowKit Go.Proofs.YtilfalpfanaanaaW.PrintWords Go.Proofs.YtilfalpfanaanaaW.PrintLast Go.Proofs.YtilfalpfanaanaaW.PrintMore Go.Proofs.Ytilfalpfanaanaa.Sx
set_option maxRecDepth 100000
section
variable {w : World} {b g p : Nat} {ok : Nat → Prop} {qs : List (Option Nat)} {ss : List (Option Slot)} {P : Nat → Prop} {ad : Addr} {c : Nat}
end
end Go.Proofs.Ytilfalpfanaanaa.PA

namespace Go.Proofs.Ytilfalpfanaanaa.PA
open Go.RowKit Go.Proofs.YtilfalpfanaanaaW.PrintWords Go.Proofs.YtilfalpfanaanaaW.PrintLast Go.Proofs.YtilfalpfanaanaaW.PrintMore Go.Proofs.Ytilfalpfanaanaa.Sx
set_option maxHeartbeats 8000000 in
set_option maxRecDepth 100000 in
theorem alike_calls {w : World} {b g p : Nat} {ok : Nat → Prop} {qs : List (Option Nat)} {ss : List (Option Slot)} {P : Nat → Prop} {ad : Addr} {c : Nat} (hI : DInv w b g p ok qs ss P ad c) : Calls Try.prog 23 #[.pointer (some ⟨g, 0, none⟩), .slice (some ad) ((ls ss).length) c] w fun e w' => e = .returned (.bool true) ∧ Below w.heap.size w w' := by
 have hfew := hI.few
 have hll := ls_len ss
 obtain ⟨ob, hob⟩ := LV_ob hI.L (by omega)
 have S0 := St.add (St.start w no) hob (fun x hx => by cases hx)
 refine s_enter (n := 50) (L := [(0, .pointer (some ⟨g, 0, none⟩)), (1, .slice (some ad) ((ls ss).length) c)]) Try.func23 rfl rfl rfl rfl ?_
 refine s_seq ?_
 refine s_region ?_
 refine qv (v := .bool false) (r_assign rfl) ?_
 refine q_nil ?_
 refine x_seq ?_
 refine s_seq ?_
 refine s_seq ?_
 refine s_region ?_
 refine qv (v := .int .i64 0) (r_assign rfl) ?_
 refine q_nil ?_
 refine x_seq ?_
 refine s_block ?_
 refine s_front [(0, .pointer (some ⟨g, 0, none⟩)), (1, .slice (some ad) ((ls ss).length) c), (5, .int .i64 0)] ⟨rfl, rfl, rfl, trivial⟩ ?_
 refine s_loop (fun m_ L_ W_ => ∃ (U : List (Nat × Value)) (i : Nat), L_ = (0, .pointer (some ⟨g, 0, none⟩)) :: (1, .slice (some ad) ((ls ss).length) c) :: (5, .int .i64 ((i : Nat) : Int)) :: U ∧ St w no W_ [⟨ad.block, false, ob⟩] ∧ i ≤ (ls ss).length ∧ m_ = (ls ss).length - i) _ ⟨_, 0, rfl, S0, Nat.zero_le _, rfl⟩ ?_
 rintro m3 L4 w1 ⟨U, i, rfl, S2, hi, rfl⟩
 refine s_seq ?_
 refine s_seq ?_
 refine s_region ?_
 refine qv (v := .int .i64 ((i : Nat) : Int)) (r_move rfl) ?_
 refine qv (v := .slice (some ad) ((ls ss).length) c) (r_move rfl) ?_
 refine qv (v := .int .i64 (((ls ss).length : Nat) : Int)) (r_len_slice elm_47 rfl) ?_
 by_cases hc1 : ((((i : Nat) : Int) : Int) < (((ls ss).length : Nat) : Int))
 ·skip
  refine qv (v := .bool true) (r_lss rfl rfl (decide_eq_true (hc1))) ?_
  refine q_nil ?_
  refine x_seq ?_
  refine s_true rfl ?_
  refine s_skip ?_
  refine x_seq ?_
  refine s_seq ?_
  refine s_block ?_
  refine s_seq ?_
  refine s_region ?_
  have hId := hI.step S2.ext.below
  have HT := Aside0.mk hId.T
  have HL := Aside0.mk hId.L
  obtain ⟨y, hy⟩ : ∃ y, ss[i]? = some y := ⟨_, List.getElem?_eq_getElem (by omega)⟩
  obtain ⟨A3, c3, hcell', h3, hF⟩ := LV_at hI.L (i := ((i : Nat) : Int)) (by omega) (x := y) hy
  have hcell : ∀ j u, [Value.int .i64 (toS y).f0, .int .u32 (toS y).f1, .bool (toS y).f2.f0, .slice A3 (toS y).f2.f1.length c3, .int .i64 (toS y).f3][j]? = some u → w.cell? (ad.add (i * 5 + j)) = some u := hcell'
  have HR := Aside0.mk (Kd.V_below (show Kd.V (Kd.int .i64) 3 w 0 P (.slice A3 (toS y).f2.f1.length c3) (toS y).f2.f1 from Kd.V_mk h3 hF) S2.ext.below)
  rcases y with _ | s
  ·skip
   refine qv (v := .pointer (some ⟨g, 0, none⟩)) (r_move rfl) ?_
   refine qv (v := .int .i64 ((i : Nat) : Int)) (r_move rfl) ?_
   refine qo ?_
   refine e_call (args := [.pointer (some ⟨g, 0, none⟩), .int .i64 ((i : Nat) : Int), .int .u32 0]) Try.func12 (by kernel_rfl) rfl rfl ?_
   refine (Get_bad HT.out ((i : Nat) : Int) 0 (fun s_ _ hs_ => by rw [show ss[(((i : Nat) : Int)).toNat]? = some none from hy] at hs_; cases hs_)).mono ?_
   rintro e w5 ⟨v, rfl, ho, hb⟩
   obtain ⟨Av, cv, rfl⟩ := Kd.R_slice ho
   refine ⟨_, rfl, ?_⟩
   have B6 := hb
   have S7 := S2.call B6
   replace HT := tb HT B6
   replace HL := vb HL B6
   replace HR := vb HR B6
   have HW := Aside0.mk ho
   clear ho
   refine qv (v := .tuple #[.agg #[.int .i64 0, .int .u32 0, .bool false, .slice Av 0 cv, .int .i64 0], .int .i64 9]) (r_move rfl) ?_
   refine qv (v := .agg #[.int .i64 0, .int .u32 0, .bool false, .slice Av 0 cv, .int .i64 0]) (r_extract rfl rfl) ?_
   refine qv (v := .int .i64 9) (r_extract rfl rfl) ?_
   refine qo ?_
   refine e_alloc S7 zro_28 ?_
   intro g8 w9 hg8 S10 B11
   replace HW := rb HW B11
   replace HT := tb HT B11
   replace HL := vb HL B11
   replace HR := vb HR B11
   refine qo ?_
   refine e_store (vs := [.int .i64 0, .int .u32 0, .bool false, .slice Av 0 cv, .int .i64 0]) (cs' := [.int .i64 0, .int .u32 0, .bool false, .slice Av 0 cv, .int .i64 0]) S10 rfl rfl rfl rfl sz_28 0 rfl (.inl rfl) rfl rfl rfl ?_
   intro w12 S13 E14
   replace HW := rx HW E14 (S10.blk 0 rfl)
   replace HT := Aside0.mk (HT.out.move (fun k_ hk_ hl_ => E14.block k_ hl_ (fun e_ => by have o_ := S10.own _ (List.mem_of_getElem? (i := 0) rfl) rfl; try dsimp only at o_ e_; have b_ := hI.okN k_ hk_; omega)))
   replace HL := Aside0.mk (Kd.V_step HL.out (fun k_ hk_ hl_ => E14.block k_ hl_ (fun e_ => by have o_ := S10.own _ (List.mem_of_getElem? (i := 0) rfl) rfl; try dsimp only at o_ e_; have b_ := hI.PN k_ hk_; omega)))
   replace HR := Aside0.mk (Kd.V_step HR.out (fun k_ hk_ hl_ => E14.block k_ hl_ (fun e_ => by have o_ := S10.own _ (List.mem_of_getElem? (i := 0) rfl) rfl; try dsimp only at o_ e_; have b_ := hI.PN k_ hk_; omega)))
   refine qv (v := .int .i64 9) (r_assign rfl) ?_
   refine q_nil ?_
   refine x_seq ?_
   refine s_seq ?_
   refine d_start mix (fun W => St w no W [⟨g8, true, .cells #[.int .i64 0, .int .u32 0, .bool false, .slice Av 0 cv, .int .i64 0] 28 (0, 0)⟩, ⟨ad.block, false, ob⟩]) ?_
   have S15 := S13.draw
   have B17 := Below_drew w12
   generalize w12.drew = w16 at S15 B17 ⊢
   replace HW := rb HW B17
   replace HT := tb HT B17
   replace HL := vb HL B17
   replace HR := vb HR B17
   refine dt 14 1 (v := .int .i64 9) 0 rfl rfl (wn rfl) (fun W hW => r_move rfl) S15 ?_
   refine dt 14 3 (v := .slice (some ad) ((ls ss).length) c) 1 rfl rfl (wn rfl) (fun W hW => r_move rfl) S15 ?_
   refine dt 14 7 (v := .int .i64 ((i : Nat) : Int)) 2 rfl rfl (wn rfl) (fun W hW => r_move rfl) S15 ?_
   refine d1 14 15 3 rfl (wn rfl) ?_
   refine e_call (args := [.slice (some ad) ((ls ss).length) c, .int .i64 ((i : Nat) : Int), .int .u32 0]) Try.func20 (by kernel_rfl) rfl rfl ?_
   refine (purlieuref13_Get.calls 40 (some ad) c (ls ss) ((i : Nat) : Int) 0 9 _ (LV_C HL.out).1 (LV_C HL.out).2 (rget_bad ss hI.G ((i : Nat) : Int) 0 (fun s_ _ hs_ => by rw [show ss[(((i : Nat) : Int)).toNat]? = some none from hy] at hs_; cases hs_))).mono ?_
   rintro e w18 ⟨rfl, hd⟩
   refine ⟨_, rfl, ?_⟩
   have B19 := (Drawn0.below hd)
   have S20 := S15.call B19
   replace HW := rb HW B19
   replace HT := tb HT B19
   replace HL := vb HL B19
   replace HR := vb HR B19
   refine ⟨S20, ?_⟩
   refine dt 14 31 (v := .bool false) 4 rfl rfl (wn rfl) (fun W hW => r_neq rfl rfl (bne_f (by omega))) S20 ?_
   refine dt 14 63 (v := .bool false) 5 rfl rfl (wn rfl) (fun W hW => r_move rfl) S20 ?_
   refine dt 14 127 (v := .agg #[.int .i64 0, .int .u32 0, .bool false, .slice Av 0 cv, .int .i64 0]) 6 rfl rfl (wan rfl rfl rfl rfl) (fun W hW => r_loadN (vs := [.int .i64 0, .int .u32 0, .bool false, .slice Av 0 cv, .int .i64 0]) sz_28 rfl (hW.blk 0 rfl) rfl rfl) S20 ?_
   refine dt 14 255 (v := .slice (some ad) ((ls ss).length) c) 7 rfl rfl (wan rfl rfl rfl rfl) (fun W hW => r_move rfl) S20 ?_
   refine dt 14 511 (v := .int .i64 ((i : Nat) : Int)) 8 rfl rfl (wan rfl rfl rfl rfl) (fun W hW => r_move rfl) S20 ?_
   refine dt 14 1023 (v := .pointer (some (ad.add (i * 5)))) 9 rfl rfl (wan rfl rfl rfl rfl) (fun W hW => r_indexA elm_47 rfl rfl (by omega) (by omega) rfl) S20 ?_
   refine dt 14 2047 (v := .agg #[.int .i64 ((toS none).f0), .int .u32 ((toS none).f1), .bool ((toS none).f2.f0), .slice A3 ((toS none).f2.f1.length) c3, .int .i64 ((toS none).f3)]) 10 rfl rfl (wan rfl rfl rfl rfl) (fun W hW => r_loadNA sz_28 rfl rfl (cells_raw (vs := [.int .i64 ((toS none).f0), .int .u32 ((toS none).f1), .bool ((toS none).f2.f0), .slice A3 ((toS none).f2.f1.length) c3, .int .i64 ((toS none).f3)]) rfl hob (hW.blk 1 rfl) hcell)) S20 ?_
   refine d1 14 4095 11 rfl (wan rfl rfl rfl rfl) ?_
   refine e_call (args := [.agg #[.int .i64 0, .int .u32 0, .bool false, .slice Av 0 cv, .int .i64 0], .agg #[.int .i64 ((toS none).f0), .int .u32 ((toS none).f1), .bool ((toS none).f2.f0), .slice A3 ((toS none).f2.f1.length) c3, .int .i64 ((toS none).f3)]]) Try.func18 (by kernel_rfl) rfl rfl ?_
   obtain ⟨ko, hko⟩ := one_same z28 (Nat.zero_le _)
   refine (purlieuref13_One.calls ko z28.f0 z28.f1 z28.f2.f0 Av cv z28.f2.f1 z28.f3 z28.f0 z28.f1 z28.f2.f0 A3 c3 z28.f2.f1 z28.f3 true _ (R_C HW.out).2 (R_C HW.out).1 (Kd.V_reads' HR.out).2.2 (Kd.V_reads' HR.out).2.1 hko).mono ?_
   rintro e w21 ⟨rfl, hb⟩
   refine ⟨_, rfl, ?_⟩
   have B22 := hb
   have S23 := S20.call B22
   replace HW := rb HW B22
   replace HT := tb HT B22
   replace HL := vb HL B22
   replace HR := vb HR B22
   refine ⟨S23, ?_⟩
   refine dt 14 8191 (v := .bool false) 12 rfl rfl (wan rfl rfl rfl rfl) (fun W hW => r_not rfl rfl) S23 ?_
   refine dt 14 16383 (v := .bool false) 13 rfl rfl (wn rfl) (fun W hW => r_pick_f rfl rfl) S23 ?_
   refine d_done (by kernel_rfl) ?_
   refine x_seq ?_
   refine s_false rfl ?_
   refine s_skip ?_
   refine x_blk ?_
   refine x_seq ?_
   refine s_region ?_
   refine qv (v := .int .i64 ((i : Nat) : Int)) (r_move rfl) ?_
   refine qv (v := .int .i64 ((i + 1 : Nat) : Int)) (r_add rfl rfl (w_succ (by omega))) ?_
   refine qv (v := .int .i64 ((i + 1 : Nat) : Int)) (r_assign rfl) ?_
   refine q_nil ?_
   have Sz := S23.sub (σ' := [⟨ad.block, false, ob⟩]) (by simp)
   exact x_loop _ [(0, .pointer (some ⟨g, 0, none⟩)), (1, .slice (some ad) ((ls ss).length) c), (5, .int .i64 ((i + 1 : Nat) : Int))] ⟨rfl, rfl, rfl, trivial⟩ (by omega) ⟨_, i + 1, rfl, Sz, by omega, rfl⟩
  ·skip
   refine qv (v := .pointer (some ⟨g, 0, none⟩)) (r_move rfl) ?_
   refine qv (v := .int .i64 ((i : Nat) : Int)) (r_move rfl) ?_
   refine qo ?_
   refine e_call (args := [.pointer (some ⟨g, 0, none⟩), .int .i64 ((i : Nat) : Int), .int .u32 0]) Try.func12 (by kernel_rfl) rfl rfl ?_
   refine (Get_ok HT.out ((i : Nat) : Int) 0 (by omega) (s := s) hy (subset_zero _) (by have h_ := (hI.G _ _ hy).len; omega)).mono ?_
   rintro e w24 ⟨v, rfl, ho, hb⟩
   obtain ⟨Av, cv, rfl⟩ := Kd.R_slice ho
   refine ⟨_, rfl, ?_⟩
   have B25 := hb
   have S26 := S2.call B25
   replace HT := tb HT B25
   replace HL := vb HL B25
   replace HR := vb HR B25
   have HW := Aside0.mk ho
   clear ho
   refine qv (v := .tuple #[.agg #[.int .i64 s.f0, .int .u32 s.f1, .bool s.f2.f0, .slice Av s.f2.f1.length cv, .int .i64 s.f3], .int .i64 0]) (r_move rfl) ?_
   refine qv (v := .agg #[.int .i64 s.f0, .int .u32 s.f1, .bool s.f2.f0, .slice Av s.f2.f1.length cv, .int .i64 s.f3]) (r_extract rfl rfl) ?_
   refine qv (v := .int .i64 0) (r_extract rfl rfl) ?_
   refine qo ?_
   refine e_alloc S26 zro_28 ?_
   intro g27 w28 hg27 S29 B30
   replace HW := rb HW B30
   replace HT := tb HT B30
   replace HL := vb HL B30
   replace HR := vb HR B30
   refine qo ?_
   refine e_store (vs := [.int .i64 s.f0, .int .u32 s.f1, .bool s.f2.f0, .slice Av s.f2.f1.length cv, .int .i64 s.f3]) (cs' := [.int .i64 s.f0, .int .u32 s.f1, .bool s.f2.f0, .slice Av s.f2.f1.length cv, .int .i64 s.f3]) S29 rfl rfl rfl rfl sz_28 0 rfl (.inl rfl) rfl rfl rfl ?_
   intro w31 S32 E33
   replace HW := rx HW E33 (S29.blk 0 rfl)
   replace HT := Aside0.mk (HT.out.move (fun k_ hk_ hl_ => E33.block k_ hl_ (fun e_ => by have o_ := S29.own _ (List.mem_of_getElem? (i := 0) rfl) rfl; try dsimp only at o_ e_; have b_ := hI.okN k_ hk_; omega)))
   replace HL := Aside0.mk (Kd.V_step HL.out (fun k_ hk_ hl_ => E33.block k_ hl_ (fun e_ => by have o_ := S29.own _ (List.mem_of_getElem? (i := 0) rfl) rfl; try dsimp only at o_ e_; have b_ := hI.PN k_ hk_; omega)))
   replace HR := Aside0.mk (Kd.V_step HR.out (fun k_ hk_ hl_ => E33.block k_ hl_ (fun e_ => by have o_ := S29.own _ (List.mem_of_getElem? (i := 0) rfl) rfl; try dsimp only at o_ e_; have b_ := hI.PN k_ hk_; omega)))
   refine qv (v := .int .i64 0) (r_assign rfl) ?_
   refine q_nil ?_
   refine x_seq ?_
   refine s_seq ?_
   refine d_start mix (fun W => St w no W [⟨g27, true, .cells #[.int .i64 s.f0, .int .u32 s.f1, .bool s.f2.f0, .slice Av s.f2.f1.length cv, .int .i64 s.f3] 28 (0, 0)⟩, ⟨ad.block, false, ob⟩]) ?_
   have S34 := S32.draw
   have B36 := Below_drew w31
   generalize w31.drew = w35 at S34 B36 ⊢
   replace HW := rb HW B36
   replace HT := tb HT B36
   replace HL := vb HL B36
   replace HR := vb HR B36
   refine dt 14 1 (v := .int .i64 0) 0 rfl rfl (wn rfl) (fun W hW => r_move rfl) S34 ?_
   refine dt 14 3 (v := .slice (some ad) ((ls ss).length) c) 1 rfl rfl (wn rfl) (fun W hW => r_move rfl) S34 ?_
   refine dt 14 7 (v := .int .i64 ((i : Nat) : Int)) 2 rfl rfl (wn rfl) (fun W hW => r_move rfl) S34 ?_
   refine d1 14 15 3 rfl (wn rfl) ?_
   refine e_call (args := [.slice (some ad) ((ls ss).length) c, .int .i64 ((i : Nat) : Int), .int .u32 0]) Try.func20 (by kernel_rfl) rfl rfl ?_
   refine (purlieuref13_Get.calls 40 (some ad) c (ls ss) ((i : Nat) : Int) 0 0 _ (LV_C HL.out).1 (LV_C HL.out).2 (rget_zero ss hI.G ((i : Nat) : Int) (by omega) (s := s) hy)).mono ?_
   rintro e w37 ⟨rfl, hd⟩
   refine ⟨_, rfl, ?_⟩
   have B38 := (Drawn0.below hd)
   have S39 := S34.call B38
   replace HW := rb HW B38
   replace HT := tb HT B38
   replace HL := vb HL B38
   replace HR := vb HR B38
   refine ⟨S39, ?_⟩
   refine dt 14 31 (v := .bool false) 4 rfl rfl (wn rfl) (fun W hW => r_neq rfl rfl (bne_f (by omega))) S39 ?_
   refine dt 14 63 (v := .bool false) 5 rfl rfl (wn rfl) (fun W hW => r_move rfl) S39 ?_
   refine dt 14 127 (v := .agg #[.int .i64 s.f0, .int .u32 s.f1, .bool s.f2.f0, .slice Av s.f2.f1.length cv, .int .i64 s.f3]) 6 rfl rfl (wan rfl rfl rfl rfl) (fun W hW => r_loadN (vs := [.int .i64 s.f0, .int .u32 s.f1, .bool s.f2.f0, .slice Av s.f2.f1.length cv, .int .i64 s.f3]) sz_28 rfl (hW.blk 0 rfl) rfl rfl) S39 ?_
   refine dt 14 255 (v := .slice (some ad) ((ls ss).length) c) 7 rfl rfl (wan rfl rfl rfl rfl) (fun W hW => r_move rfl) S39 ?_
   refine dt 14 511 (v := .int .i64 ((i : Nat) : Int)) 8 rfl rfl (wan rfl rfl rfl rfl) (fun W hW => r_move rfl) S39 ?_
   refine dt 14 1023 (v := .pointer (some (ad.add (i * 5)))) 9 rfl rfl (wan rfl rfl rfl rfl) (fun W hW => r_indexA elm_47 rfl rfl (by omega) (by omega) rfl) S39 ?_
   refine dt 14 2047 (v := .agg #[.int .i64 ((toS (some s)).f0), .int .u32 ((toS (some s)).f1), .bool ((toS (some s)).f2.f0), .slice A3 ((toS (some s)).f2.f1.length) c3, .int .i64 ((toS (some s)).f3)]) 10 rfl rfl (wan rfl rfl rfl rfl) (fun W hW => r_loadNA sz_28 rfl rfl (cells_raw (vs := [.int .i64 ((toS (some s)).f0), .int .u32 ((toS (some s)).f1), .bool ((toS (some s)).f2.f0), .slice A3 ((toS (some s)).f2.f1.length) c3, .int .i64 ((toS (some s)).f3)]) rfl hob (hW.blk 1 rfl) hcell)) S39 ?_
   refine d1 14 4095 11 rfl (wan rfl rfl rfl rfl) ?_
   refine e_call (args := [.agg #[.int .i64 s.f0, .int .u32 s.f1, .bool s.f2.f0, .slice Av s.f2.f1.length cv, .int .i64 s.f3], .agg #[.int .i64 ((toS (some s)).f0), .int .u32 ((toS (some s)).f1), .bool ((toS (some s)).f2.f0), .slice A3 ((toS (some s)).f2.f1.length) c3, .int .i64 ((toS (some s)).f3)]]) Try.func18 (by kernel_rfl) rfl rfl ?_
   obtain ⟨ko, hko⟩ := one_same s (by have h_ := (hI.G _ _ hy).len; omega)
   refine (purlieuref13_One.calls ko s.f0 s.f1 s.f2.f0 Av cv s.f2.f1 s.f3 s.f0 s.f1 s.f2.f0 A3 c3 s.f2.f1 s.f3 true _ (R_C HW.out).2 (R_C HW.out).1 (Kd.V_reads' HR.out).2.2 (Kd.V_reads' HR.out).2.1 hko).mono ?_
   rintro e w40 ⟨rfl, hb⟩
   refine ⟨_, rfl, ?_⟩
   have B41 := hb
   have S42 := S39.call B41
   replace HW := rb HW B41
   replace HT := tb HT B41
   replace HL := vb HL B41
   replace HR := vb HR B41
   refine ⟨S42, ?_⟩
   refine dt 14 8191 (v := .bool false) 12 rfl rfl (wan rfl rfl rfl rfl) (fun W hW => r_not rfl rfl) S42 ?_
   refine dt 14 16383 (v := .bool false) 13 rfl rfl (wn rfl) (fun W hW => r_pick_f rfl rfl) S42 ?_
   refine d_done (by kernel_rfl) ?_
   refine x_seq ?_
   refine s_false rfl ?_
   refine s_skip ?_
   refine x_blk ?_
   refine x_seq ?_
   refine s_region ?_
   refine qv (v := .int .i64 ((i : Nat) : Int)) (r_move rfl) ?_
   refine qv (v := .int .i64 ((i + 1 : Nat) : Int)) (r_add rfl rfl (w_succ (by omega))) ?_
   refine qv (v := .int .i64 ((i + 1 : Nat) : Int)) (r_assign rfl) ?_
   refine q_nil ?_
   have Sz := S42.sub (σ' := [⟨ad.block, false, ob⟩]) (by simp)
   exact x_loop _ [(0, .pointer (some ⟨g, 0, none⟩)), (1, .slice (some ad) ((ls ss).length) c), (5, .int .i64 ((i + 1 : Nat) : Int))] ⟨rfl, rfl, rfl, trivial⟩ (by omega) ⟨_, i + 1, rfl, Sz, by omega, rfl⟩
 ·skip
  refine qv (v := .bool false) (r_lss rfl rfl (decide_eq_false (hc1))) ?_
  refine q_nil ?_
  refine x_seq ?_
  refine s_false rfl ?_
  refine s_exit ?_
  refine x_seq_exit ?_
  refine x_seq_exit ?_
  refine x_blk_exit ?_
  refine x_seq ?_
  refine s_seq ?_
  refine s_region ?_
  have hId := hI.step S2.ext.below
  have HT := Aside0.mk hId.T
  have HL := Aside0.mk hId.L
  have hix_ := idxs_le ss ss.length
  refine qv (v := .pointer (some ⟨g, 0, none⟩)) (r_move rfl) ?_
  refine qo ?_
  refine e_call (args := [.pointer (some ⟨g, 0, none⟩)]) Try.func28 (by kernel_rfl) rfl rfl ?_
  refine (All_ok HT.out).mono ?_
  rintro e w43 ⟨v, rfl, ho, hb⟩
  obtain ⟨Aa, ca, rfl⟩ := Kd.R_slice ho
  refine ⟨_, rfl, ?_⟩
  have B44 := hb
  have S45 := S2.call B44
  replace HT := tb HT B44
  replace HL := vb HL B44
  have HW := Aside0.mk ho
  clear ho
  refine qv (v := .slice (some ad) ((ls ss).length) c) (r_move rfl) ?_
  refine qo ?_
  refine e_call (args := [.slice (some ad) ((ls ss).length) c]) Try.func50 (by kernel_rfl) rfl rfl ?_
  refine (purlieuref13_All.calls 80 (some ad) c (ls ss) (idxs ss ss.length) _ (LV_C HL.out).1 (LV_C HL.out).2 (rall ss hI.G hfew.2)).mono ?_
  rintro e w46 ⟨v, rfl, ho, hb⟩
  obtain ⟨Ar0, cr0, rfl⟩ := Kd.R_slice ho
  refine ⟨_, rfl, ?_⟩
  have B47 := hb
  have S48 := S45.call B47
  replace HW := rb HW B47
  replace HT := tb HT B47
  replace HL := vb HL B47
  have HX := Aside0.mk ho
  clear ho
  refine qo ?_
  refine e_call (args := [.slice Aa ((idxs ss ss.length).length) ca, .slice Ar0 ((idxs ss ss.length).length) cr0]) Try.func49 (by kernel_rfl) rfl rfl ?_
  obtain ⟨kn, hkn⟩ := nums_same (idxs ss ss.length) (by omega)
  refine (purlieuref02_Nums.calls kn Aa ca _ Ar0 cr0 _ true _ (R_C HW.out).2 (R_C HW.out).1 (R_C HX.out).2 (R_C HX.out).1 hkn).mono ?_
  rintro e w49 ⟨rfl, hd⟩
  refine ⟨_, rfl, ?_⟩
  have B50 := (Drawn0.below hd)
  have S51 := S48.call B50
  replace HW := rb HW B50
  replace HX := rb HX B50
  replace HT := tb HT B50
  replace HL := vb HL B50
  refine qv (v := .bool true) (r_move rfl) ?_
  refine q_val (v := .pointer (some ⟨g, 0, none⟩)) (wan rfl rfl rfl rfl) rfl (r_move rfl) ?_
  refine q_of (wan rfl rfl rfl rfl) ?_
  refine e_call (args := [.pointer (some ⟨g, 0, none⟩)]) Try.func27 (by kernel_rfl) rfl rfl ?_
  refine (Room_ok HT.out).mono ?_
  rintro e w52 ⟨rfl, hb⟩
  refine ⟨_, rfl, ?_⟩
  have B53 := hb
  have S54 := S51.call B53
  replace HW := rb HW B53
  replace HX := rb HX B53
  replace HT := tb HT B53
  replace HL := vb HL B53
  refine q_val (v := .slice (some ad) ((ls ss).length) c) (wan rfl rfl rfl rfl) rfl (r_move rfl) ?_
  refine q_val (v := .int .i64 (((ls ss).length : Nat) : Int)) (wan rfl rfl rfl rfl) rfl (r_len_slice elm_47 rfl) ?_
  refine q_val (v := .slice (some ad) ((ls ss).length) c) (wan rfl rfl rfl rfl) rfl (r_move rfl) ?_
  refine q_of (wan rfl rfl rfl rfl) ?_
  refine e_call (args := [.slice (some ad) ((ls ss).length) c]) Try.func50 (by kernel_rfl) rfl rfl ?_
  refine (purlieuref13_All.calls 80 (some ad) c (ls ss) (idxs ss ss.length) _ (LV_C HL.out).1 (LV_C HL.out).2 (rall ss hI.G hfew.2)).mono ?_
  rintro e w55 ⟨v, rfl, ho, hb⟩
  obtain ⟨Ar1, cr1, rfl⟩ := Kd.R_slice ho
  refine ⟨_, rfl, ?_⟩
  have B56 := hb
  have S57 := S54.call B56
  replace HW := rb HW B56
  replace HX := rb HX B56
  replace HT := tb HT B56
  replace HL := vb HL B56
  refine q_val (v := .int .i64 (((idxs ss ss.length).length : Nat) : Int)) (wan rfl rfl rfl rfl) rfl (r_len_slice elm_24 rfl) ?_
  refine q_val (v := .int .i64 ((((ls ss).length : Nat) : Int) - (((idxs ss ss.length).length : Nat) : Int))) (wan rfl rfl rfl rfl) rfl (r_sub rfl rfl (w64 (by omega) (by omega))) ?_
  refine q_val (v := .bool true) (wan rfl rfl rfl rfl) rfl (r_eql rfl rfl (beq_t (by omega))) ?_
  refine qv (v := .bool true) (r_pick_t rfl rfl) ?_
  refine qv (v := .bool true) (r_assign rfl) ?_
  refine q_nil ?_
  refine x_seq ?_
  refine s_ret ?_
  refine t_ret1 (v := .bool true) rfl rfl ?_
  exact ⟨rfl, S57.ext.below⟩
end Go.Proofs.Ytilfalpfanaanaa.PA

namespace Go.Proofs.Ytilfalpfanaanaa.PA
open Go.RowKit Go.Proofs.YtilfalpfanaanaaW.PrintWords Go.Proofs.YtilfalpfanaanaaW.PrintLast Go.Proofs.YtilfalpfanaanaaW.PrintMore Go.Proofs.Ytilfalpfanaanaa.Sx
section
variable {w w' : World} {b g p g2 p2 : Nat} {ok Y : Nat → Prop} {qs qs2 : List (Option Nat)} {ss : List (Option Slot)} {P : Nat → Prop} {ad : Addr} {c : Nat}
theorem DInv.extP (h : DInv w b g p ok qs ss P ad c) (he : Ext Y w w') (h1 : ∀ k, ok k → Y k → False) (h2 : ∀ k, P k → Y k → False) : DInv w' b g p ok qs ss P ad c :=
  ⟨h.T.move (fun k hk hl => he.block k hl (fun e => h1 k hk e)), Kd.V_step h.L (fun k hk hl => he.block k hl (fun e => h2 k hk e)), h.D, fun k hk => Nat.lt_of_lt_of_le (h.okN k hk) he.size, fun k hk => Nat.lt_of_lt_of_le (h.PN k hk) he.size, h.G⟩
theorem dinv_clone (hI : DInv w b g p ok qs ss P ad c) (hT : TabAt w' w.heap.size (fun j => w.heap.size ≤ j) g2 p2 qs2 ss) (hb : Below w.heap.size w w') : DInv w' w.heap.size g2 p2 (fun k => w.heap.size ≤ k ∧ k < w'.heap.size) qs2 ss P ad c :=
  ⟨hT.bound, Kd.V_below hI.L hb, fun k h1 h2 => by have := hI.PN k h2; have := h1.1; omega, fun k hk => hk.2, fun k hk => Nat.lt_of_lt_of_le (hI.PN k hk) hb.size, hI.G⟩
end
end Go.Proofs.Ytilfalpfanaanaa.PA

namespace Go.Proofs.Ytilfalpfanaanaa.PA
open Go.RowKit Go.Proofs.YtilfalpfanaanaaW.PrintWords Go.Proofs.YtilfalpfanaanaaW.PrintLast Go.Proofs.YtilfalpfanaanaaW.PrintMore Go.Proofs.Ytilfalpfanaanaa.Sx
set_option maxHeartbeats 8000000 in
set_option maxRecDepth 100000 in
theorem slotsClones_walk (w : World) {A : Option Addr} {cp : Nat} {l : List ActV} (hA : ActsAt w A l) {A2 : Option Addr} {cp2 : Nat} {l2 : List ActV} (hA2 : ActsAt w A2 l2) : Calls Try.prog 6 #[.slice A l.length cp, .slice A2 l2.length cp2] w fun e w' => e = .returned (.bool true) ∧ Below w.heap.size w w' := by
 refine s_enter (n := 82) (L := [(0, .slice A l.length cp), (1, .slice A2 l2.length cp2)]) Try.func6 rfl rfl rfl rfl ?_
 have S1 := St.start w no
 refine s_seq ?_
 refine s_region ?_
 refine qv (v := .bool false) (r_assign rfl) ?_
 refine q_nil ?_
 refine x_seq ?_
 refine s_seq ?_
 refine s_cut .normal (fun L_ W_ => ∃ (U : List (Nat × Value)) (b : Nat) (g : Nat) (p : Nat) (ok : Nat → Prop) (P : Nat → Prop) (ad : Addr) (c : Nat), L_ = (0, .slice A l.length cp) :: (1, .slice A2 l2.length cp2) :: (5, .pointer (some ⟨g, 0, none⟩)) :: (6, .slice (some ad) ((ls (none5 4)).length) c) :: U ∧ St w no W_ [] ∧ DInv W_ b g p ok (List.replicate 4 none) (none5 4) P ad c ∧ (∀ k, ok k → w.heap.size ≤ k)) ?_ ?_
 ·skip
  refine d_start mix (fun W => St w no W []) ?_
  have S2 := S1.draw
  have B4 := Below_drew w
  generalize w.drew = w3 at S2 B4 ⊢
  refine d_two (listed' := lb 4 1) (listed'' := lb 4 2) 0 1 rfl rfl (by kernel_rfl) (wn rfl) (wn rfl) (by kernel_rfl) (by kernel_rfl) ?_ ?_
  ·skip
   refine e_call (args := [.int .i64 4]) Try.func8 (by kernel_rfl) rfl rfl ?_
   have hwN_ := S2.ext.size
   refine (New_ok 4 (by omega) (by omega) _).mono ?_
   rintro e w5 ⟨g, p, rfl, hT, hb⟩
   refine ⟨_, rfl, ?_⟩
   have B6 := hb
   have S7 := S2.call B6
   have hszn_ := Below.size hb
   have HT := Aside0.mk ((tab_base hT).bound)
   clear hT
   refine ⟨S7, ?_⟩
   refine dt 4 5 (v := .pointer (some ⟨g, 0, none⟩)) 2 rfl rfl (wn rfl) (fun W hW => r_assign rfl) S7 ?_
   refine d1 4 7 1 rfl (wn rfl) ?_
   obtain ⟨ad, c, w9, hrm8, hLm8, B11, hszm8⟩ := make_list 4 (by omega) (by omega) w5
   refine e_val (v := .slice (some ad) (ls (none5 4)).length c) rfl (r_makeSlice rfl rfl hrm8) ?_
   have S10 := S7.call B11
   have hszbm8 := Below.size B11
   replace HT := tb HT B11
   have HL := Aside0.mk hLm8
   refine ⟨S10, ?_⟩
   refine dt 4 15 (v := .slice (some ad) ((ls (none5 4)).length) c) 3 rfl rfl (wn rfl) (fun W hW => r_assign rfl) S10 ?_
   refine d_done (by kernel_rfl) ?_
   exact x_cut [(0, .slice A l.length cp), (1, .slice A2 l2.length cp2), (5, .pointer (some ⟨g, 0, none⟩)), (6, .slice (some ad) ((ls (none5 4)).length) c)] ⟨rfl, rfl, rfl, rfl, trivial⟩ ⟨_, _, _, _, _, _, _, _, rfl, S10, dinv_mk (m := 4) HT.out HL.out (fun k_ h1_ h2_ => by (try dsimp only at h1_ h2_); omega) (fun k_ h1_ => by (try dsimp only at h1_); omega) (fun k_ h1_ => by (try dsimp only at h1_); omega), (fun k_ h_ => by (try dsimp only at h_); omega)⟩
  ·skip
   obtain ⟨ad, c, w13, hrm12, hLm12, B15, hszm12⟩ := make_list 4 (by omega) (by omega) w3
   refine e_val (v := .slice (some ad) (ls (none5 4)).length c) rfl (r_makeSlice rfl rfl hrm12) ?_
   have S14 := S2.call B15
   have hszbm12 := Below.size B15
   have HL := Aside0.mk hLm12
   refine ⟨S14, ?_⟩
   refine d1 4 3 0 rfl (wn rfl) ?_
   refine e_call (args := [.int .i64 4]) Try.func8 (by kernel_rfl) rfl rfl ?_
   have hwN_ := S14.ext.size
   refine (New_ok 4 (by omega) (by omega) _).mono ?_
   rintro e w16 ⟨g, p, rfl, hT, hb⟩
   refine ⟨_, rfl, ?_⟩
   have B17 := hb
   have S18 := S14.call B17
   replace HL := vb HL B17
   have hszn_ := Below.size hb
   have HT := Aside0.mk ((tab_base hT).bound)
   clear hT
   refine ⟨S18, ?_⟩
   refine dt 4 7 (v := .pointer (some ⟨g, 0, none⟩)) 2 rfl rfl (wn rfl) (fun W hW => r_assign rfl) S18 ?_
   refine dt 4 15 (v := .slice (some ad) ((ls (none5 4)).length) c) 3 rfl rfl (wn rfl) (fun W hW => r_assign rfl) S18 ?_
   refine d_done (by kernel_rfl) ?_
   exact x_cut [(0, .slice A l.length cp), (1, .slice A2 l2.length cp2), (5, .pointer (some ⟨g, 0, none⟩)), (6, .slice (some ad) ((ls (none5 4)).length) c)] ⟨rfl, rfl, rfl, rfl, trivial⟩ ⟨_, _, _, _, _, _, _, _, rfl, S18, dinv_mk (m := 4) HT.out HL.out (fun k_ h1_ h2_ => by (try dsimp only at h1_ h2_); omega) (fun k_ h1_ => by (try dsimp only at h1_); omega) (fun k_ h1_ => by (try dsimp only at h1_); omega), (fun k_ h_ => by (try dsimp only at h_); omega)⟩
 rintro L19 w20 ⟨U, b, g, p, ok, P, ad, c, rfl, S21, hI0, hlo0⟩
 refine x_seq ?_
 refine s_seq ?_
 refine s_seq ?_
 refine s_region ?_
 refine qv (v := .pointer (some ⟨g, 0, none⟩)) (r_move rfl) ?_
 refine qv (v := .bool false) (r_peql ptr_31 rfl rfl rfl) ?_
 refine q_nil ?_
 refine x_seq ?_
 refine s_false rfl ?_
 refine s_skip ?_
 refine x_seq ?_
 refine s_seq ?_
 refine s_seq ?_
 refine s_region ?_
 refine qv (v := .int .i64 0) (r_assign rfl) ?_
 refine q_nil ?_
 refine x_seq ?_
 refine s_cut .normal (fun L_ W_ => ∃ (U : List (Nat × Value)) (qs : List (Option Nat)) (ss : List (Option Slot)) (ok : Nat → Prop) (P : Nat → Prop) (ad : Addr) (c : Nat), L_ = (1, .slice A2 l2.length cp2) :: (5, .pointer (some ⟨g, 0, none⟩)) :: (6, .slice (some ad) ((ls ss).length) c) :: U ∧ St w no W_ [] ∧ DInv W_ b g p ok qs ss P ad c ∧ (∀ k, ok k → w.heap.size ≤ k) ∧ ss.length = 4) ?_ ?_
 ·skip
  refine s_block ?_
  refine s_front [(0, .slice A l.length cp), (1, .slice A2 l2.length cp2), (5, .pointer (some ⟨g, 0, none⟩)), (6, .slice (some ad) ((ls (none5 4)).length) c), (7, .int .i64 0)] ⟨rfl, rfl, rfl, rfl, rfl, trivial⟩ ?_
  refine s_loop (fun m_ L_ W_ => ∃ (U : List (Nat × Value)) (i : Nat) (qs : List (Option Nat)) (ss : List (Option Slot)) (ok : Nat → Prop) (P : Nat → Prop) (ad : Addr) (c : Nat), L_ = (0, .slice A l.length cp) :: (1, .slice A2 l2.length cp2) :: (5, .pointer (some ⟨g, 0, none⟩)) :: (6, .slice (some ad) ((ls ss).length) c) :: (7, .int .i64 ((i : Nat) : Int)) :: U ∧ St w no W_ [] ∧ DInv W_ b g p ok qs ss P ad c ∧ (∀ k, ok k → w.heap.size ≤ k) ∧ i ≤ l.length ∧ ss.length = 4 ∧ m_ = l.length - i) _ ⟨_, 0, _, _, _, _, _, _, rfl, S21, hI0, hlo0, Nat.zero_le _, List.length_replicate, rfl⟩ ?_
  rintro m24 L25 w22 ⟨U, i, qs, ss, ok, P, ad, c, rfl, S23, hI, hlo, hi, hss, rfl⟩
  refine s_seq ?_
  refine s_seq ?_
  refine s_region ?_
  refine qv (v := .int .i64 ((i : Nat) : Int)) (r_move rfl) ?_
  refine qv (v := .slice A l.length cp) (r_move rfl) ?_
  refine qv (v := .int .i64 ((l.length : Nat) : Int)) (r_len_slice elm_46 rfl) ?_
  by_cases hc1 : ((((i : Nat) : Int) : Int) < ((l.length : Nat) : Int))
  ·skip
   refine qv (v := .bool true) (r_lss rfl rfl (decide_eq_true (hc1))) ?_
   refine qv (v := .bool true) (r_move rfl) ?_
   refine q_val (v := .int .i64 ((i : Nat) : Int)) (wan rfl rfl rfl rfl) rfl (r_move rfl) ?_
   by_cases hc2 : ((((i : Nat) : Int) : Int) < 30)
   ·skip
    refine q_val (v := .bool true) (wan rfl rfl rfl rfl) rfl (r_lss rfl rfl (decide_eq_true (hc2))) ?_
    refine qv (v := .bool true) (r_pick_t rfl rfl) ?_
    refine q_nil ?_
    refine x_seq ?_
    refine s_true rfl ?_
    refine s_skip ?_
    refine x_seq ?_
    refine s_seq ?_
    refine s_block ?_
    refine s_region ?_
    refine qv (v := .pointer (some ⟨g, 0, none⟩)) (r_move rfl) ?_
    refine qv (v := .slice (some ad) ((ls ss).length) c) (r_move rfl) ?_
    refine qv (v := .slice A l.length cp) (r_move rfl) ?_
    refine qv (v := .int .i64 ((i : Nat) : Int)) (r_move rfl) ?_
    obtain ⟨x, hx⟩ : ∃ x, l[i]? = some x := ⟨_, List.getElem?_eq_getElem (by omega)⟩
    obtain ⟨adx, A5, c5, A7, c7, hAe, hcx, hax⟩ := (ActsAt.below hA S23.ext.below) i x hx
    refine qv (v := .pointer (some (adx.add (i * 8)))) (r_indexH elm_46 hAe rfl rfl (by omega) (by omega) rfl) ?_
    refine qv (v := .agg #[.int .i64 x.kd, .int .i64 x.fd, .int .i64 x.s0, .int .u32 x.s1, .bool x.b0, .slice A5 x.l5.length c5, .int .i64 x.s3, .slice A7 x.l7.length c7]) (r_loadNA (vs := [.int .i64 x.kd, .int .i64 x.fd, .int .i64 x.s0, .int .u32 x.s1, .bool x.b0, .slice A5 x.l5.length c5, .int .i64 x.s3, .slice A7 x.l7.length c7]) sz_30 rfl rfl hcx) ?_
    refine qo ?_
    refine e_call (args := [.pointer (some ⟨g, 0, none⟩), .slice (some ad) ((ls ss).length) c, .agg #[.int .i64 x.kd, .int .i64 x.fd, .int .i64 x.s0, .int .u32 x.s1, .bool x.b0, .slice A5 x.l5.length c5, .int .i64 x.s3, .slice A7 x.l7.length c7]]) Try.func19 (by kernel_rfl) rfl rfl ?_
    refine (does_calls hI hax).mono ?_
    rintro e w26 ⟨qs2, ss2, ok2, P2, ad2, c2, rfl, hI2, hE2, hlen2, hok2, hP2⟩
    refine ⟨_, rfl, ?_⟩
    have S27 := S23.callX hE2 (fun x_ hx_ => by cases hx_) (fun k_ h1_ h2_ => by have := hlo k_ h2_; omega)
    have hsE2 := hE2.size
    refine qv (v := .tuple #[.slice (some ad2) ((ls ss2).length) c2, .bool true]) (r_move rfl) ?_
    refine qv (v := .slice (some ad2) ((ls ss2).length) c2) (r_extract rfl rfl) ?_
    refine qv (v := .bool true) (r_extract rfl rfl) ?_
    refine qv (v := .slice (some ad2) ((ls ss2).length) c2) (r_assign rfl) ?_
    refine q_nil ?_
    refine x_blk ?_
    refine x_seq ?_
    refine s_region ?_
    refine qv (v := .int .i64 ((i : Nat) : Int)) (r_move rfl) ?_
    refine qv (v := .int .i64 ((i + 1 : Nat) : Int)) (r_add rfl rfl (w_succ (by omega))) ?_
    refine qv (v := .int .i64 ((i + 1 : Nat) : Int)) (r_assign rfl) ?_
    refine q_nil ?_
    exact x_loop _ [(0, .slice A l.length cp), (1, .slice A2 l2.length cp2), (5, .pointer (some ⟨g, 0, none⟩)), (6, .slice (some ad2) ((ls ss2).length) c2), (7, .int .i64 ((i + 1 : Nat) : Int))] ⟨rfl, rfl, rfl, rfl, rfl, trivial⟩ (by omega) ⟨_, i + 1, _, _, _, _, _, _, rfl, S27, hI2, (fun k_ h_ => (hok2 k_ h_).elim (hlo k_) (fun h2_ => by have := S23.ext.size; omega)), by omega, hlen2.trans hss, rfl⟩
   ·skip
    refine q_val (v := .bool false) (wan rfl rfl rfl rfl) rfl (r_lss rfl rfl (decide_eq_false (hc2))) ?_
    refine qv (v := .bool false) (r_pick_t rfl rfl) ?_
    refine q_nil ?_
    refine x_seq ?_
    refine s_false rfl ?_
    refine s_exit ?_
    refine x_seq_exit ?_
    refine x_seq_exit ?_
    refine x_blk_exit ?_
    exact x_cut [(1, .slice A2 l2.length cp2), (5, .pointer (some ⟨g, 0, none⟩)), (6, .slice (some ad) ((ls ss).length) c)] ⟨rfl, rfl, rfl, trivial⟩ ⟨_, _, _, _, _, _, _, rfl, S23, hI, hlo, hss⟩
  ·skip
   refine qv (v := .bool false) (r_lss rfl rfl (decide_eq_false (hc1))) ?_
   refine qv (v := .bool false) (r_move rfl) ?_
   refine q_skip (unwan rfl rfl rfl rfl rfl) rfl ?_
   refine q_skip (unwan rfl rfl rfl rfl rfl) rfl ?_
   refine qv (v := .bool false) (r_pick_f rfl rfl) ?_
   refine q_nil ?_
   refine x_seq ?_
   refine s_false rfl ?_
   refine s_exit ?_
   refine x_seq_exit ?_
   refine x_seq_exit ?_
   refine x_blk_exit ?_
   exact x_cut [(1, .slice A2 l2.length cp2), (5, .pointer (some ⟨g, 0, none⟩)), (6, .slice (some ad) ((ls ss).length) c)] ⟨rfl, rfl, rfl, trivial⟩ ⟨_, _, _, _, _, _, _, rfl, S23, hI, hlo, hss⟩
 rintro L28 w29 ⟨U, qs, ss, ok, P, ad, c, rfl, S30, hI, hlo, hss⟩
 refine x_seq ?_
 refine s_seq ?_
 refine s_region ?_
 refine qv (v := .pointer (some ⟨g, 0, none⟩)) (r_move rfl) ?_
 refine qo ?_
 refine e_call (args := [.pointer (some ⟨g, 0, none⟩)]) Try.func24 (by kernel_rfl) rfl rfl ?_
 have hokN := hI.okN
 have hPN0 := hI.PN
 have hwc_ := S30.ext.size
 refine (Clone_ok hI.T (fun k_ s_ hs_ => by have h_ := (hI.G k_ s_ hs_).len; omega)).mono ?_
 rintro e w31 ⟨g2, p2, qs2, rfl, hT2, hb⟩
 refine ⟨_, rfl, ?_⟩
 have B32 := hb
 have S33 := S30.call B32
 have hIu := dinv_clone hI hT2 B32
 replace hI := hI.step B32
 refine qv (v := .pointer (some ⟨g2, 0, none⟩)) (r_assign rfl) ?_
 refine q_nil ?_
 refine x_seq ?_
 refine s_seq ?_
 refine s_seq ?_
 refine s_region ?_
 refine qv (v := .pointer (some ⟨g2, 0, none⟩)) (r_move rfl) ?_
 refine qv (v := .bool false) (r_peql ptr_31 rfl rfl rfl) ?_
 refine qv (v := .bool false) (r_move rfl) ?_
 refine q_val (v := .pointer (some ⟨g2, 0, none⟩)) (wan rfl rfl rfl rfl) rfl (r_move rfl) ?_
 refine q_val (v := .slice (some ad) ((ls ss).length) c) (wan rfl rfl rfl rfl) rfl (r_move rfl) ?_
 refine q_of (wan rfl rfl rfl rfl) ?_
 refine e_call (args := [.pointer (some ⟨g2, 0, none⟩), .slice (some ad) ((ls ss).length) c]) Try.func23 (by kernel_rfl) rfl rfl ?_
 refine (alike_calls hIu).mono ?_
 rintro e w34 ⟨rfl, hb⟩
 refine ⟨_, rfl, ?_⟩
 have B35 := hb
 have S36 := S33.call B35
 replace hI := hI.step B35
 replace hIu := hIu.step B35
 refine q_val (v := .bool false) (wan rfl rfl rfl rfl) rfl (r_not rfl rfl) ?_
 refine qv (v := .bool false) (r_pick_f rfl rfl) ?_
 refine q_nil ?_
 refine x_seq ?_
 refine s_false rfl ?_
 refine s_skip ?_
 refine x_seq ?_
 refine s_seq ?_
 refine s_region ?_
 refine qv (v := .slice (some ad) ((ls ss).length) c) (r_move rfl) ?_
 refine qv (v := .slice (some ad) ((ls ss).length) c) (r_assign rfl) ?_
 refine q_nil ?_
 refine x_seq ?_
 refine s_seq ?_
 refine s_seq ?_
 refine s_region ?_
 refine qv (v := .int .i64 0) (r_assign rfl) ?_
 refine q_nil ?_
 refine x_seq ?_
 refine s_cut .normal (fun L_ W_ => ∃ (U : List (Nat × Value)) (qsu : List (Option Nat)) (ssu : List (Option Slot)) (oku : Nat → Prop) (Pu : Nat → Prop) (adu : Addr) (cu : Nat), L_ = (5, .pointer (some ⟨g, 0, none⟩)) :: (6, .slice (some ad) ((ls ss).length) c) :: (8, .pointer (some ⟨g2, 0, none⟩)) :: (9, .slice (some adu) ((ls ssu).length) cu) :: U ∧ St w no W_ [] ∧ DInv W_ b g p ok qs ss P ad c ∧ DInv W_ w29.heap.size g2 p2 oku qsu ssu Pu adu cu) ?_ ?_
 ·skip
  refine s_block ?_
  refine s_front [(1, .slice A2 l2.length cp2), (5, .pointer (some ⟨g, 0, none⟩)), (6, .slice (some ad) ((ls ss).length) c), (8, .pointer (some ⟨g2, 0, none⟩)), (9, .slice (some ad) ((ls ss).length) c), (10, .int .i64 0)] ⟨rfl, rfl, rfl, rfl, rfl, rfl, trivial⟩ ?_
  refine s_loop (fun m_ L_ W_ => ∃ (U : List (Nat × Value)) (i : Nat) (qsu : List (Option Nat)) (ssu : List (Option Slot)) (oku : Nat → Prop) (Pu : Nat → Prop) (adu : Addr) (cu : Nat), L_ = (1, .slice A2 l2.length cp2) :: (5, .pointer (some ⟨g, 0, none⟩)) :: (6, .slice (some ad) ((ls ss).length) c) :: (8, .pointer (some ⟨g2, 0, none⟩)) :: (9, .slice (some adu) ((ls ssu).length) cu) :: (10, .int .i64 ((i : Nat) : Int)) :: U ∧ St w no W_ [] ∧ DInv W_ b g p ok qs ss P ad c ∧ DInv W_ w29.heap.size g2 p2 oku qsu ssu Pu adu cu ∧ (∀ k, oku k → ok k → False) ∧ (∀ k, oku k → P k → False) ∧ (∀ k, oku k → w.heap.size ≤ k) ∧ i ≤ l2.length ∧ m_ = l2.length - i) _ ⟨_, 0, _, _, _, _, _, _, rfl, S36, hI, hIu, (fun k_ h1_ h2_ => by have := hokN k_ h2_; have := h1_.1; omega), (fun k_ h1_ h2_ => by have := hPN0 k_ h2_; have := h1_.1; omega), (fun k_ h_ => Nat.le_trans hwc_ h_.1), Nat.zero_le _, rfl⟩ ?_
  rintro m39 L40 w37 ⟨U, i, qsu, ssu, oku, Pu, adu, cu, rfl, S38, hI, hIu, hd1, hd2, hlou, hi, rfl⟩
  refine s_seq ?_
  refine s_seq ?_
  refine s_region ?_
  refine qv (v := .int .i64 ((i : Nat) : Int)) (r_move rfl) ?_
  refine qv (v := .slice A2 l2.length cp2) (r_move rfl) ?_
  refine qv (v := .int .i64 ((l2.length : Nat) : Int)) (r_len_slice elm_46 rfl) ?_
  by_cases hc1 : ((((i : Nat) : Int) : Int) < ((l2.length : Nat) : Int))
  ·skip
   refine qv (v := .bool true) (r_lss rfl rfl (decide_eq_true (hc1))) ?_
   refine qv (v := .bool true) (r_move rfl) ?_
   refine q_val (v := .int .i64 ((i : Nat) : Int)) (wan rfl rfl rfl rfl) rfl (r_move rfl) ?_
   by_cases hc2 : ((((i : Nat) : Int) : Int) < 30)
   ·skip
    refine q_val (v := .bool true) (wan rfl rfl rfl rfl) rfl (r_lss rfl rfl (decide_eq_true (hc2))) ?_
    refine qv (v := .bool true) (r_pick_t rfl rfl) ?_
    refine q_nil ?_
    refine x_seq ?_
    refine s_true rfl ?_
    refine s_skip ?_
    refine x_seq ?_
    refine s_seq ?_
    refine s_block ?_
    refine s_seq ?_
    refine s_region ?_
    refine qv (v := .pointer (some ⟨g2, 0, none⟩)) (r_move rfl) ?_
    refine qv (v := .slice (some adu) ((ls ssu).length) cu) (r_move rfl) ?_
    refine qv (v := .slice A2 l2.length cp2) (r_move rfl) ?_
    refine qv (v := .int .i64 ((i : Nat) : Int)) (r_move rfl) ?_
    obtain ⟨x, hx⟩ : ∃ x, l2[i]? = some x := ⟨_, List.getElem?_eq_getElem (by omega)⟩
    obtain ⟨adx, A5, c5, A7, c7, hAe, hcx, hax⟩ := (ActsAt.below hA2 S38.ext.below) i x hx
    refine qv (v := .pointer (some (adx.add (i * 8)))) (r_indexH elm_46 hAe rfl rfl (by omega) (by omega) rfl) ?_
    refine qv (v := .agg #[.int .i64 x.kd, .int .i64 x.fd, .int .i64 x.s0, .int .u32 x.s1, .bool x.b0, .slice A5 x.l5.length c5, .int .i64 x.s3, .slice A7 x.l7.length c7]) (r_loadNA (vs := [.int .i64 x.kd, .int .i64 x.fd, .int .i64 x.s0, .int .u32 x.s1, .bool x.b0, .slice A5 x.l5.length c5, .int .i64 x.s3, .slice A7 x.l7.length c7]) sz_30 rfl rfl hcx) ?_
    refine qo ?_
    refine e_call (args := [.pointer (some ⟨g2, 0, none⟩), .slice (some adu) ((ls ssu).length) cu, .agg #[.int .i64 x.kd, .int .i64 x.fd, .int .i64 x.s0, .int .u32 x.s1, .bool x.b0, .slice A5 x.l5.length c5, .int .i64 x.s3, .slice A7 x.l7.length c7]]) Try.func19 (by kernel_rfl) rfl rfl ?_
    refine (does_calls hIu hax).mono ?_
    rintro e w41 ⟨qsu2, ssu2, oku2, Pu2, adu2, cu2, rfl, hIu2, hEu2, hlenu2, hoku2, hPu2⟩
    refine ⟨_, rfl, ?_⟩
    have S42 := S38.callX hEu2 (fun x_ hx_ => by cases hx_) (fun k_ h1_ h2_ => by have := hlou k_ h2_; omega)
    have hsEu2 := hEu2.size
    refine qv (v := .tuple #[.slice (some adu2) ((ls ssu2).length) cu2, .bool true]) (r_move rfl) ?_
    refine qv (v := .slice (some adu2) ((ls ssu2).length) cu2) (r_extract rfl rfl) ?_
    refine qv (v := .bool true) (r_extract rfl rfl) ?_
    refine qv (v := .slice (some adu2) ((ls ssu2).length) cu2) (r_assign rfl) ?_
    refine qv (v := .bool true) (r_assign rfl) ?_
    refine q_nil ?_
    refine x_seq ?_
    refine s_seq ?_
    refine s_seq ?_
    refine s_region ?_
    refine qv (v := .bool true) (r_move rfl) ?_
    refine qv (v := .bool false) (r_not rfl rfl) ?_
    refine q_nil ?_
    refine x_seq ?_
    refine s_false rfl ?_
    refine s_skip ?_
    refine x_seq ?_
    refine s_region ?_
    refine qv (v := .slice (some adu2) ((ls ssu2).length) cu2) (r_move rfl) ?_
    refine qv (v := .slice (some adu2) ((ls ssu2).length) cu2) (r_assign rfl) ?_
    refine q_nil ?_
    refine x_blk ?_
    refine x_seq ?_
    refine s_region ?_
    refine qv (v := .int .i64 ((i : Nat) : Int)) (r_move rfl) ?_
    refine qv (v := .int .i64 ((i + 1 : Nat) : Int)) (r_add rfl rfl (w_succ (by omega))) ?_
    refine qv (v := .int .i64 ((i + 1 : Nat) : Int)) (r_assign rfl) ?_
    refine q_nil ?_
    exact x_loop _ [(1, .slice A2 l2.length cp2), (5, .pointer (some ⟨g, 0, none⟩)), (6, .slice (some ad) ((ls ss).length) c), (8, .pointer (some ⟨g2, 0, none⟩)), (9, .slice (some adu2) ((ls ssu2).length) cu2), (10, .int .i64 ((i + 1 : Nat) : Int))] ⟨rfl, rfl, rfl, rfl, rfl, rfl, trivial⟩ (by omega) ⟨_, i + 1, _, _, _, _, _, _, rfl, S42, (DInv.extP hI hEu2 (fun k_ h1_ h2_ => hd1 k_ h2_ h1_) (fun k_ h1_ h2_ => hd2 k_ h2_ h1_)), hIu2, (fun k_ h1_ h2_ => (hoku2 k_ h1_).elim (fun h_ => hd1 k_ h_ h2_) (fun h_ => by have := hI.okN k_ h2_; omega)), (fun k_ h1_ h2_ => (hoku2 k_ h1_).elim (fun h_ => hd2 k_ h_ h2_) (fun h_ => by have := hI.PN k_ h2_; omega)), (fun k_ h_ => (hoku2 k_ h_).elim (hlou k_) (fun h2_ => by have := S38.ext.size; omega)), by omega, rfl⟩
   ·skip
    refine q_val (v := .bool false) (wan rfl rfl rfl rfl) rfl (r_lss rfl rfl (decide_eq_false (hc2))) ?_
    refine qv (v := .bool false) (r_pick_t rfl rfl) ?_
    refine q_nil ?_
    refine x_seq ?_
    refine s_false rfl ?_
    refine s_exit ?_
    refine x_seq_exit ?_
    refine x_seq_exit ?_
    refine x_blk_exit ?_
    exact x_cut [(5, .pointer (some ⟨g, 0, none⟩)), (6, .slice (some ad) ((ls ss).length) c), (8, .pointer (some ⟨g2, 0, none⟩)), (9, .slice (some adu) ((ls ssu).length) cu)] ⟨rfl, rfl, rfl, rfl, trivial⟩ ⟨_, _, _, _, _, _, _, rfl, S38, hI, hIu⟩
  ·skip
   refine qv (v := .bool false) (r_lss rfl rfl (decide_eq_false (hc1))) ?_
   refine qv (v := .bool false) (r_move rfl) ?_
   refine q_skip (unwan rfl rfl rfl rfl rfl) rfl ?_
   refine q_skip (unwan rfl rfl rfl rfl rfl) rfl ?_
   refine qv (v := .bool false) (r_pick_f rfl rfl) ?_
   refine q_nil ?_
   refine x_seq ?_
   refine s_false rfl ?_
   refine s_exit ?_
   refine x_seq_exit ?_
   refine x_seq_exit ?_
   refine x_blk_exit ?_
   exact x_cut [(5, .pointer (some ⟨g, 0, none⟩)), (6, .slice (some ad) ((ls ss).length) c), (8, .pointer (some ⟨g2, 0, none⟩)), (9, .slice (some adu) ((ls ssu).length) cu)] ⟨rfl, rfl, rfl, rfl, trivial⟩ ⟨_, _, _, _, _, _, _, rfl, S38, hI, hIu⟩
 rintro L43 w44 ⟨U, qsu, ssu, oku, Pu, adu, cu, rfl, S45, hI, hIu⟩
 refine x_seq ?_
 refine s_seq ?_
 refine s_region ?_
 refine qv (v := .pointer (some ⟨g, 0, none⟩)) (r_move rfl) ?_
 refine qv (v := .slice (some ad) ((ls ss).length) c) (r_move rfl) ?_
 refine qo ?_
 refine e_call (args := [.pointer (some ⟨g, 0, none⟩), .slice (some ad) ((ls ss).length) c]) Try.func23 (by kernel_rfl) rfl rfl ?_
 refine (alike_calls hI).mono ?_
 rintro e w46 ⟨rfl, hb⟩
 refine ⟨_, rfl, ?_⟩
 have B47 := hb
 have S48 := S45.call B47
 replace hI := hI.step B47
 replace hIu := hIu.step B47
 refine qv (v := .bool true) (r_move rfl) ?_
 refine q_val (v := .pointer (some ⟨g2, 0, none⟩)) (wan rfl rfl rfl rfl) rfl (r_move rfl) ?_
 refine q_val (v := .slice (some adu) ((ls ssu).length) cu) (wan rfl rfl rfl rfl) rfl (r_move rfl) ?_
 refine q_of (wan rfl rfl rfl rfl) ?_
 refine e_call (args := [.pointer (some ⟨g2, 0, none⟩), .slice (some adu) ((ls ssu).length) cu]) Try.func23 (by kernel_rfl) rfl rfl ?_
 refine (alike_calls hIu).mono ?_
 rintro e w49 ⟨rfl, hb⟩
 refine ⟨_, rfl, ?_⟩
 have B50 := hb
 have S51 := S48.call B50
 replace hI := hI.step B50
 replace hIu := hIu.step B50
 refine qv (v := .bool true) (r_pick_t rfl rfl) ?_
 refine qv (v := .bool true) (r_move rfl) ?_
 refine q_of (wan rfl rfl rfl rfl) ?_
 refine e_call (args := []) Try.func10 (by kernel_rfl) rfl rfl ?_
 refine (lives_calls _).mono ?_
 rintro e w52 ⟨rfl, hb⟩
 refine ⟨_, rfl, ?_⟩
 have B53 := hb
 have S54 := S51.call B53
 refine qv (v := .bool true) (r_pick_t rfl rfl) ?_
 refine qv (v := .bool true) (r_assign rfl) ?_
 refine q_nil ?_
 refine x_seq ?_
 refine s_ret ?_
 refine t_ret1 (v := .bool true) rfl rfl ?_
 exact ⟨rfl, S54.ext.below⟩
end Go.Proofs.Ytilfalpfanaanaa.PA
