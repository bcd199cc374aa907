/- Parts of one proof, put together by a program of this session's (wip/merge.py). -/
import Derived.Test.YtilfalpfanaanaaMActs3
import Derived.Test.YtilfalpfanaanaaMActs1
import Derived.Test.YtilfalpfanaanaaMActs2
import Derived.Test.YtilfalpfanaanaaRows
import Derived.WalkKit
import Derived.ProofKit
import Derived.OpenShut
import Derived.ChangeOld
import Derived.Below
import Derived.SizedLaws
import Derived.Lib.SmallJoins
set_option linter.unusedVariables false
set_option linter.unusedSimpArgs false
namespace Go.Proofs.Ytilfalpfanaanaa.PA
open Go.RowKit Go.Proofs.YtilfalpfanaanaaW.PrintWords Go.Proofs.YtilfalpfanaanaaW.PrintLast Go.Proofs.YtilfalpfanaanaaW.PrintMore Go.Proofs.Ytilfalpfanaanaa.Sx
abbrev LV (w : World) (P : Nat → Prop) (ad : Addr) (c : Nat) (l : List Slot) : Prop := Kd.V k28 28 w 0 P (.slice (some ad) l.length c) l
theorem LV_ob {w : World} {P : Nat → Prop} {ad : Addr} {c : Nat} {l : List Slot} (h : LV w P ad c l) (hl : 0 < l.length) : ∃ ob, w.heap[ad.block]? = some ob := by
  obtain ⟨cs, hlen, _, hc⟩ := Kd.V_get h z28 0 (Int.le_refl 0) (by omega)
  have hne : 0 < cs.length := by rw [hlen]; decide
  have := hc 0 cs[0] (List.getElem?_eq_getElem hne)
  cases e : w.heap[ad.block]? with
  | some ob => exact ⟨ob, rfl⟩
  | none => simp [World.cell?, Sx.add_block, e] at this
theorem LV_at {w : World} {P : Nat → Prop} {ad : Addr} {c : Nat} {ss : List (Option Slot)} (h : LV w P ad c (ls ss)) {i : Int} (h0 : 0 ≤ i) {x : Option Slot} (hx : ss[i.toNat]? = some x) :
    ∃ A3 c3, (∀ j u, [Value.int .i64 (toS x).f0, .int .u32 (toS x).f1, .bool (toS x).f2.f0, .slice A3 (toS x).f2.f1.length c3, .int .i64 (toS x).f3][j]? = some u → w.cell? (ad.add (i.toNat * 5 + j)) = some u) ∧ (toS x).f2.f1.length ≤ c3 ∧ Kd.F (Kd.int .i64) w P A3 (toS x).f2.f1.length (toS x).f2.f1 := by
  have hlt := get_lt hx
  have hl := ls_len ss
  obtain ⟨cs, _, hK, hc⟩ := Kd.V_get h z28 i h0 (by omega)
  have hr : (ls ss).getD i.toNat z28 = toS x := rd_ls ss i hx
  rw [hr] at hK
  obtain ⟨A3, c3, rfl, h3, h4⟩ := k28_openF hK
  exact ⟨A3, c3, hc, h3, h4⟩
theorem LV_C {w : World} {P : Nat → Prop} {ad : Addr} {c : Nat} {l : List Slot} (h : LV w P ad c l) : Kd.C k28 w (some ad) l.length l ∧ l.length ≤ c := ⟨(Kd.V_reads' h).2.2, (Kd.V_reads' h).2.1⟩
theorem has_28 (r : Int) (h0 : 0 ≤ r) : PA.purlieuref01_Has.f r 28 = some (!decide (Go.bits .and .u32 r 268435456 = 0)) := by
  rw [show (28 : Int) = ((28 : Nat) : Int) from rfl, BitsLaw32.has_eq r h0 28 (by omega)]
  congr 1
  have hb : ∀ i, i < 32 → (BitsLaw32.bt32 268435456 i = true ↔ i = 28) := by decide +kernel
  by_cases h : Go.bits .and .u32 r 268435456 = 0
  · rw [decide_eq_true h]
    cases e : BitsLaw32.bt32 r 28 with
    | false => rfl
    | true => have := (BitsLaw32.and_zero _ _).1 h 28 (by omega) e; rw [(hb 28 (by omega)).2 rfl] at this; cases this
  · rw [decide_eq_false h]
    cases e : BitsLaw32.bt32 r 28 with
    | true => rfl
    | false => exact absurd ((BitsLaw32.and_zero _ _).2 fun i hi hr => by
        cases e2 : BitsLaw32.bt32 268435456 i with
        | false => rfl
        | true => rw [(hb i hi).1 e2] at hr; rw [hr] at e; cases e) h
theorem has_9 (r : Int) (h0 : 0 ≤ r) : PA.purlieuref01_Has.f r 9 = some (!decide (Go.bits .and .u32 r 512 = 0)) := by
  rw [show (9 : Int) = ((9 : Nat) : Int) from rfl, BitsLaw32.has_eq r h0 9 (by omega)]
  congr 1
  have hb : ∀ i, i < 32 → (BitsLaw32.bt32 512 i = true ↔ i = 9) := by decide +kernel
  by_cases h : Go.bits .and .u32 r 512 = 0
  · rw [decide_eq_true h]
    cases e : BitsLaw32.bt32 r 9 with
    | false => rfl
    | true => have := (BitsLaw32.and_zero _ _).1 h 9 (by omega) e; rw [(hb 9 (by omega)).2 rfl] at this; cases this
  · rw [decide_eq_false h]
    cases e : BitsLaw32.bt32 r 9 with
    | true => rfl
    | false => exact absurd ((BitsLaw32.and_zero _ _).2 fun i hi hr => by
        cases e2 : BitsLaw32.bt32 512 i with
        | false => rfl
        | true => rw [(hb i hi).1 e2] at hr; rw [hr] at e; cases e) h
theorem With_ls {w : World} {P P2 : Nat → Prop} {ad : Addr} {c : Nat} {ss : List (Option Slot)} (h : LV w P ad c (ls ss)) (hl : ss.length ≤ 64) (i : Int) (h0 : 0 ≤ i) (h1 : i < (ss.length : Int)) (x : Option Slot) {A : Option Addr} {c2 : Nat} (hr : Kd.V (Kd.int .i64) 3 w 0 P2 (.slice A (toS x).f2.f1.length c2) (toS x).f2.f1) :
    Calls Try.prog 44 #[.slice (some ad) (ls ss).length c, .int .i64 i, .agg #[.int .i64 (toS x).f0, .int .u32 (toS x).f1, .bool (toS x).f2.f0, .slice A (toS x).f2.f1.length c2, .int .i64 (toS x).f3]] w fun e w' => ∃ ad' c', e = .returned (.slice (some ad') (ls (ss.set i.toNat x)).length c') ∧ LV w' (fun k => (P k ∨ P2 k) ∨ w.heap.size ≤ k) ad' c' (ls (ss.set i.toNat x)) ∧ Below w.heap.size w w' := by
  refine (purlieuref13_With.calls P (some ad) c (ls ss) i _ _ _ P2 A c2 _ _ _ w h hr (rwith ss hl i h0 h1 x)).mono ?_
  rintro e w' ⟨v, rfl, hN, hb⟩
  have hV : Kd.V k28 28 w' 0 (fun k => (P k ∨ P2 k) ∨ w.heap.size ≤ k) v (ls (ss.set i.toNat x)) := Kd.N_V hN
  obtain ⟨A', c', rfl⟩ := Kd.V_slice hV
  cases A' with
  | some ad' => exact ⟨ad', c', rfl, hV, hb⟩
  | none =>
    have h5 := ls_len (ss.set i.toNat x)
    rw [List.length_set] at h5
    obtain ⟨ad', _, he, _⟩ := Kd.C_get (Kd.V_reads' hV).2.2 z28 0 (Int.le_refl 0) (by omega)
    cases he
end Go.Proofs.Ytilfalpfanaanaa.PA

namespace Go.Proofs.Ytilfalpfanaanaa.PA
open Go.RowKit Go.Proofs.YtilfalpfanaanaaW.PrintWords Go.Proofs.YtilfalpfanaanaaW.PrintLast Go.Proofs.YtilfalpfanaanaaW.PrintMore Go.Proofs.Ytilfalpfanaanaa.Sx
set_option maxHeartbeats 8000000 in
set_option maxRecDepth 100000 in
theorem RLimit_no {w : World} {P : Nat → Prop} {ad : Addr} {c : Nat} {ss : List (Option Slot)} (hL : LV w P ad c (ls ss)) (hPN : ∀ k, P k → k < w.heap.size) (fd : Int) (r e : Int) (hG : purlieuref13_Get.f 40 (ls ss) fd r = some e) (he : e ≠ 0) : Calls Try.prog 45 #[.slice (some ad) ((ls ss).length) c, .int .i64 fd, .int .u32 r] w fun e' w' => e' = .returned (.tuple #[.slice (some ad) ((ls ss).length) c, .int .i64 e]) ∧ Below w.heap.size w w' := by
 have HL := Aside0.mk hL
 refine s_enter (n := 37) (L := [(0, .slice (some ad) ((ls ss).length) c), (1, .int .i64 fd), (2, .int .u32 r)]) Try.func45 rfl rfl rfl rfl ?_
 have S1 := St.start w no
 refine s_seq ?_
 refine s_region ?_
 refine qv (v := .slice none 0 0) (r_assign rfl) ?_
 refine qv (v := .int .i64 0) (r_assign rfl) ?_
 refine q_nil ?_
 refine x_seq ?_
 refine s_seq ?_
 refine s_seq ?_
 refine s_region ?_
 refine qv (v := .slice (some ad) ((ls ss).length) c) (r_move rfl) ?_
 refine qv (v := .int .i64 fd) (r_move rfl) ?_
 refine qv (v := .int .u32 r) (r_move rfl) ?_
 refine qo ?_
 refine e_call (args := [.slice (some ad) ((ls ss).length) c, .int .i64 fd, .int .u32 r]) Try.func20 (by kernel_rfl) rfl rfl ?_
 refine (purlieuref13_Get.calls 40 (some ad) c (ls ss) fd r e _ (LV_C HL.out).1 (LV_C HL.out).2 hG).mono ?_
 rintro e w2 ⟨rfl, hd⟩
 refine ⟨_, rfl, ?_⟩
 have B3 := (Drawn0.below hd)
 have S4 := S1.call B3
 replace HL := vb HL B3
 refine qv (v := .int .i64 e) (r_assign rfl) ?_
 refine q_nil ?_
 refine x_seq ?_
 refine s_seq ?_
 refine s_region ?_
 refine qv (v := .int .i64 e) (r_move rfl) ?_
 refine qv (v := .bool true) (r_neq rfl rfl (bne_t (he))) ?_
 refine q_nil ?_
 refine x_seq ?_
 refine s_true rfl ?_
 refine s_seq ?_
 refine s_region ?_
 refine qv (v := .slice (some ad) ((ls ss).length) c) (r_move rfl) ?_
 refine qv (v := .int .i64 e) (r_move rfl) ?_
 refine qv (v := .slice (some ad) ((ls ss).length) c) (r_assign rfl) ?_
 refine qv (v := .int .i64 e) (r_assign rfl) ?_
 refine q_nil ?_
 refine x_seq ?_
 refine s_ret ?_
 refine x_seq_ret ?_
 refine t_ret2 (v := .slice (some ad) ((ls ss).length) c) (v' := .int .i64 e) rfl rfl rfl ?_
 exact ⟨rfl, S4.ext.below⟩
set_option maxHeartbeats 8000000 in
set_option maxRecDepth 100000 in
theorem RLimit_tt {w : World} {P : Nat → Prop} {ad : Addr} {c : Nat} {ss : List (Option Slot)} (hL : LV w P ad c (ls ss)) (hPN : ∀ k, P k → k < w.heap.size) (fd : Int) (hl : ss.length ≤ 64) (h0 : 0 ≤ fd) {s : Slot} (hs : ss[fd.toNat]? = some (some s)) (r : Int) (hr0 : 0 ≤ r) (hG : purlieuref13_Get.f 40 (ls ss) fd r = some 0) (h28 : ¬ Go.bits .and .u32 r 268435456 = 0) (h9 : ¬ Go.bits .and .u32 r 512 = 0) : Calls Try.prog 45 #[.slice (some ad) ((ls ss).length) c, .int .i64 fd, .int .u32 r] w fun e' w' => ∃ ad' c', e' = .returned (.tuple #[.slice (some ad') (ls (ss.set fd.toNat (some ⟨s.f0, r, s.f2, s.f3⟩))).length c', .int .i64 0]) ∧ LV w' (fun k => (P k ∨ w.heap.size ≤ k)) ad' c' (ls (ss.set fd.toNat (some ⟨s.f0, r, s.f2, s.f3⟩))) ∧ Below w.heap.size w w' := by
 have hlt := get_lt hs
 have hll := ls_len ss
 obtain ⟨ob, hob⟩ := LV_ob hL (by omega)
 obtain ⟨A3, c3, hcell, h3, hF⟩ := LV_at hL h0 hs
 have HR := Aside0.mk (show Kd.V (Kd.int .i64) 3 w 0 P (.slice A3 s.f2.f1.length c3) s.f2.f1 from Kd.V_mk h3 hF)
 have S0 := St.add (St.start w no) hob (fun x hx => by cases hx)
 have HL := Aside0.mk hL
 refine s_enter (n := 37) (L := [(0, .slice (some ad) ((ls ss).length) c), (1, .int .i64 fd), (2, .int .u32 r)]) Try.func45 rfl rfl rfl rfl ?_
 refine s_seq ?_
 refine s_region ?_
 refine qv (v := .slice none 0 0) (r_assign rfl) ?_
 refine qv (v := .int .i64 0) (r_assign rfl) ?_
 refine q_nil ?_
 refine x_seq ?_
 refine s_seq ?_
 refine s_seq ?_
 refine s_region ?_
 refine qv (v := .slice (some ad) ((ls ss).length) c) (r_move rfl) ?_
 refine qv (v := .int .i64 fd) (r_move rfl) ?_
 refine qv (v := .int .u32 r) (r_move rfl) ?_
 refine qo ?_
 refine e_call (args := [.slice (some ad) ((ls ss).length) c, .int .i64 fd, .int .u32 r]) Try.func20 (by kernel_rfl) rfl rfl ?_
 refine (purlieuref13_Get.calls 40 (some ad) c (ls ss) fd r 0 _ (LV_C HL.out).1 (LV_C HL.out).2 hG).mono ?_
 rintro e w1 ⟨rfl, hd⟩
 refine ⟨_, rfl, ?_⟩
 have B2 := (Drawn0.below hd)
 have S3 := S0.call B2
 replace HR := vb HR B2
 replace HL := vb HL B2
 refine qv (v := .int .i64 0) (r_assign rfl) ?_
 refine q_nil ?_
 refine x_seq ?_
 refine s_seq ?_
 refine s_region ?_
 refine qv (v := .int .i64 0) (r_move rfl) ?_
 refine qv (v := .bool false) (r_neq rfl rfl (bne_f (by omega))) ?_
 refine q_nil ?_
 refine x_seq ?_
 refine s_false rfl ?_
 refine s_skip ?_
 refine x_seq ?_
 refine s_seq ?_
 refine s_region ?_
 refine qv (v := .slice (some ad) ((ls ss).length) c) (r_move rfl) ?_
 refine qv (v := .int .i64 fd) (r_move rfl) ?_
 refine qv (v := .pointer (some (ad.add (fd.toNat * 5)))) (r_indexA elm_47 rfl rfl (by omega) (by omega) rfl) ?_
 refine qv (v := .agg #[.int .i64 s.f0, .int .u32 s.f1, .bool s.f2.f0, .slice A3 s.f2.f1.length c3, .int .i64 s.f3]) (r_loadNA sz_28 rfl rfl (cells_raw (vs := [.int .i64 s.f0, .int .u32 s.f1, .bool s.f2.f0, .slice A3 s.f2.f1.length c3, .int .i64 s.f3]) rfl hob (S3.blk 0 rfl) hcell)) ?_
 refine qo ?_
 refine e_alloc S3 zro_28 ?_
 intro g4 w5 hg4 S6 B7
 replace HR := vb HR B7
 replace HL := vb HL B7
 refine qo ?_
 refine e_store (vs := [.int .i64 s.f0, .int .u32 s.f1, .bool s.f2.f0, .slice A3 s.f2.f1.length c3, .int .i64 s.f3]) (cs' := [.int .i64 s.f0, .int .u32 s.f1, .bool s.f2.f0, .slice A3 s.f2.f1.length c3, .int .i64 s.f3]) S6 rfl rfl rfl rfl sz_28 0 rfl (.inl rfl) rfl rfl rfl ?_
 intro w8 S9 E10
 replace HR := Aside0.mk (Kd.V_step HR.out (fun k_ hk_ hl_ => E10.block k_ hl_ (fun e_ => by have o_ := S6.own _ (List.mem_of_getElem? (i := 0) rfl) rfl; try dsimp only at o_ e_; have b_ := hPN k_ hk_; omega)))
 replace HL := Aside0.mk (Kd.V_step HL.out (fun k_ hk_ hl_ => E10.block k_ hl_ (fun e_ => by have o_ := S6.own _ (List.mem_of_getElem? (i := 0) rfl) rfl; try dsimp only at o_ e_; have b_ := hPN k_ hk_; omega)))
 refine q_nil ?_
 refine x_seq ?_
 refine s_seq ?_
 refine s_region ?_
 refine qv (v := .int .u32 r) (r_move rfl) ?_
 refine qv (v := .pointer (some ⟨g4, 1, none⟩)) (r_field fld_28_1 rfl rfl) ?_
 refine qo ?_
 refine e_store (vs := [.int .u32 r]) (cs' := [.int .i64 s.f0, .int .u32 r, .bool s.f2.f0, .slice A3 s.f2.f1.length c3, .int .i64 s.f3]) S9 rfl rfl rfl rfl sz_23 0 rfl (.inl rfl) rfl rfl rfl ?_
 intro w11 S12 E13
 replace HR := Aside0.mk (Kd.V_step HR.out (fun k_ hk_ hl_ => E13.block k_ hl_ (fun e_ => by have o_ := S9.own _ (List.mem_of_getElem? (i := 0) rfl) rfl; try dsimp only at o_ e_; have b_ := hPN k_ hk_; omega)))
 replace HL := Aside0.mk (Kd.V_step HL.out (fun k_ hk_ hl_ => E13.block k_ hl_ (fun e_ => by have o_ := S9.own _ (List.mem_of_getElem? (i := 0) rfl) rfl; try dsimp only at o_ e_; have b_ := hPN k_ hk_; omega)))
 refine q_nil ?_
 refine x_seq ?_
 refine s_seq ?_
 refine s_seq ?_
 refine s_region ?_
 refine qv (v := .int .u32 r) (r_move rfl) ?_
 refine qo ?_
 refine e_call (args := [.int .u32 r, .int .i64 28]) Try.func59 (by kernel_rfl) rfl rfl ?_
 refine (purlieuref01_Has.calls r 28 true _ (by rw [has_28 r hr0, decide_eq_false h28]; rfl)).mono ?_
 rintro e w14 ⟨rfl, hd⟩
 refine ⟨_, rfl, ?_⟩
 have B15 := (Drawn0.below hd)
 have S16 := S12.call B15
 replace HR := vb HR B15
 replace HL := vb HL B15
 refine qv (v := .bool false) (r_not rfl rfl) ?_
 refine q_nil ?_
 refine x_seq ?_
 refine s_false rfl ?_
 refine s_skip ?_
 refine x_seq ?_
 refine s_seq ?_
 refine s_seq ?_
 refine s_region ?_
 refine qv (v := .int .u32 r) (r_move rfl) ?_
 refine qo ?_
 refine e_call (args := [.int .u32 r, .int .i64 9]) Try.func59 (by kernel_rfl) rfl rfl ?_
 refine (purlieuref01_Has.calls r 9 true _ (by rw [has_9 r hr0, decide_eq_false h9]; rfl)).mono ?_
 rintro e w17 ⟨rfl, hd⟩
 refine ⟨_, rfl, ?_⟩
 have B18 := (Drawn0.below hd)
 have S19 := S16.call B18
 replace HR := vb HR B18
 replace HL := vb HL B18
 refine qv (v := .bool false) (r_not rfl rfl) ?_
 refine q_nil ?_
 refine x_seq ?_
 refine s_false rfl ?_
 refine s_skip ?_
 refine x_seq ?_
 refine s_seq ?_
 refine s_region ?_
 refine qv (v := .slice (some ad) ((ls ss).length) c) (r_move rfl) ?_
 refine qv (v := .int .i64 fd) (r_move rfl) ?_
 refine qv (v := .agg #[.int .i64 s.f0, .int .u32 r, .bool s.f2.f0, .slice A3 s.f2.f1.length c3, .int .i64 s.f3]) (r_loadN (vs := [.int .i64 s.f0, .int .u32 r, .bool s.f2.f0, .slice A3 s.f2.f1.length c3, .int .i64 s.f3]) sz_28 rfl (S19.blk 0 rfl) rfl rfl) ?_
 refine qo ?_
 refine e_call (args := [.slice (some ad) ((ls ss).length) c, .int .i64 fd, .agg #[.int .i64 s.f0, .int .u32 r, .bool s.f2.f0, .slice A3 s.f2.f1.length c3, .int .i64 s.f3]]) Try.func44 (by kernel_rfl) rfl rfl ?_
 have HBw := Aside0.mk S19.ext.size
 have hV_ := HR.out
 refine (With_ls HL.out hl fd h0 (by omega) (some (⟨s.f0, r, s.f2, s.f3⟩ : Slot)) hV_).mono ?_
 rintro e w20 ⟨ad2, c2, rfl, hL2, hb⟩
 refine ⟨_, rfl, ?_⟩
 have B21 := hb
 have S22 := S19.call B21
 replace HR := vb HR B21
 replace HL := vb HL B21
 have HL2 := Aside0.mk hL2
 refine qv (v := .slice (some ad2) ((ls (ss.set fd.toNat (some (⟨s.f0, r, s.f2, s.f3⟩ : Slot)))).length) c2) (r_assign rfl) ?_
 refine qv (v := .int .i64 0) (r_assign rfl) ?_
 refine q_nil ?_
 refine x_seq ?_
 refine s_ret ?_
 refine t_ret2 (v := .slice (some ad2) ((ls (ss.set fd.toNat (some (⟨s.f0, r, s.f2, s.f3⟩ : Slot)))).length) c2) (v' := .int .i64 0) rfl rfl rfl ?_
 exact ⟨ad2, c2, rfl, Kd.V_mono HL2.out (fun k_ hk_ => by have hz_ := HBw.out; rcases hk_ with (h_ | h_) | h_ <;> first | exact .inl h_ | (right; omega)), S22.ext.below⟩
set_option maxHeartbeats 8000000 in
set_option maxRecDepth 100000 in
theorem RLimit_tf {w : World} {P : Nat → Prop} {ad : Addr} {c : Nat} {ss : List (Option Slot)} (hL : LV w P ad c (ls ss)) (hPN : ∀ k, P k → k < w.heap.size) (fd : Int) (hl : ss.length ≤ 64) (h0 : 0 ≤ fd) {s : Slot} (hs : ss[fd.toNat]? = some (some s)) (r : Int) (hr0 : 0 ≤ r) (hG : purlieuref13_Get.f 40 (ls ss) fd r = some 0) (h28 : ¬ Go.bits .and .u32 r 268435456 = 0) (h9 : Go.bits .and .u32 r 512 = 0) : Calls Try.prog 45 #[.slice (some ad) ((ls ss).length) c, .int .i64 fd, .int .u32 r] w fun e' w' => ∃ ad' c', e' = .returned (.tuple #[.slice (some ad') (ls (ss.set fd.toNat (some ⟨s.f0, r, s.f2, 0⟩))).length c', .int .i64 0]) ∧ LV w' (fun k => (P k ∨ w.heap.size ≤ k)) ad' c' (ls (ss.set fd.toNat (some ⟨s.f0, r, s.f2, 0⟩))) ∧ Below w.heap.size w w' := by
 have hlt := get_lt hs
 have hll := ls_len ss
 obtain ⟨ob, hob⟩ := LV_ob hL (by omega)
 obtain ⟨A3, c3, hcell, h3, hF⟩ := LV_at hL h0 hs
 have HR := Aside0.mk (show Kd.V (Kd.int .i64) 3 w 0 P (.slice A3 s.f2.f1.length c3) s.f2.f1 from Kd.V_mk h3 hF)
 have S0 := St.add (St.start w no) hob (fun x hx => by cases hx)
 have HL := Aside0.mk hL
 refine s_enter (n := 37) (L := [(0, .slice (some ad) ((ls ss).length) c), (1, .int .i64 fd), (2, .int .u32 r)]) Try.func45 rfl rfl rfl rfl ?_
 refine s_seq ?_
 refine s_region ?_
 refine qv (v := .slice none 0 0) (r_assign rfl) ?_
 refine qv (v := .int .i64 0) (r_assign rfl) ?_
 refine q_nil ?_
 refine x_seq ?_
 refine s_seq ?_
 refine s_seq ?_
 refine s_region ?_
 refine qv (v := .slice (some ad) ((ls ss).length) c) (r_move rfl) ?_
 refine qv (v := .int .i64 fd) (r_move rfl) ?_
 refine qv (v := .int .u32 r) (r_move rfl) ?_
 refine qo ?_
 refine e_call (args := [.slice (some ad) ((ls ss).length) c, .int .i64 fd, .int .u32 r]) Try.func20 (by kernel_rfl) rfl rfl ?_
 refine (purlieuref13_Get.calls 40 (some ad) c (ls ss) fd r 0 _ (LV_C HL.out).1 (LV_C HL.out).2 hG).mono ?_
 rintro e w1 ⟨rfl, hd⟩
 refine ⟨_, rfl, ?_⟩
 have B2 := (Drawn0.below hd)
 have S3 := S0.call B2
 replace HR := vb HR B2
 replace HL := vb HL B2
 refine qv (v := .int .i64 0) (r_assign rfl) ?_
 refine q_nil ?_
 refine x_seq ?_
 refine s_seq ?_
 refine s_region ?_
 refine qv (v := .int .i64 0) (r_move rfl) ?_
 refine qv (v := .bool false) (r_neq rfl rfl (bne_f (by omega))) ?_
 refine q_nil ?_
 refine x_seq ?_
 refine s_false rfl ?_
 refine s_skip ?_
 refine x_seq ?_
 refine s_seq ?_
 refine s_region ?_
 refine qv (v := .slice (some ad) ((ls ss).length) c) (r_move rfl) ?_
 refine qv (v := .int .i64 fd) (r_move rfl) ?_
 refine qv (v := .pointer (some (ad.add (fd.toNat * 5)))) (r_indexA elm_47 rfl rfl (by omega) (by omega) rfl) ?_
 refine qv (v := .agg #[.int .i64 s.f0, .int .u32 s.f1, .bool s.f2.f0, .slice A3 s.f2.f1.length c3, .int .i64 s.f3]) (r_loadNA sz_28 rfl rfl (cells_raw (vs := [.int .i64 s.f0, .int .u32 s.f1, .bool s.f2.f0, .slice A3 s.f2.f1.length c3, .int .i64 s.f3]) rfl hob (S3.blk 0 rfl) hcell)) ?_
 refine qo ?_
 refine e_alloc S3 zro_28 ?_
 intro g4 w5 hg4 S6 B7
 replace HR := vb HR B7
 replace HL := vb HL B7
 refine qo ?_
 refine e_store (vs := [.int .i64 s.f0, .int .u32 s.f1, .bool s.f2.f0, .slice A3 s.f2.f1.length c3, .int .i64 s.f3]) (cs' := [.int .i64 s.f0, .int .u32 s.f1, .bool s.f2.f0, .slice A3 s.f2.f1.length c3, .int .i64 s.f3]) S6 rfl rfl rfl rfl sz_28 0 rfl (.inl rfl) rfl rfl rfl ?_
 intro w8 S9 E10
 replace HR := Aside0.mk (Kd.V_step HR.out (fun k_ hk_ hl_ => E10.block k_ hl_ (fun e_ => by have o_ := S6.own _ (List.mem_of_getElem? (i := 0) rfl) rfl; try dsimp only at o_ e_; have b_ := hPN k_ hk_; omega)))
 replace HL := Aside0.mk (Kd.V_step HL.out (fun k_ hk_ hl_ => E10.block k_ hl_ (fun e_ => by have o_ := S6.own _ (List.mem_of_getElem? (i := 0) rfl) rfl; try dsimp only at o_ e_; have b_ := hPN k_ hk_; omega)))
 refine q_nil ?_
 refine x_seq ?_
 refine s_seq ?_
 refine s_region ?_
 refine qv (v := .int .u32 r) (r_move rfl) ?_
 refine qv (v := .pointer (some ⟨g4, 1, none⟩)) (r_field fld_28_1 rfl rfl) ?_
 refine qo ?_
 refine e_store (vs := [.int .u32 r]) (cs' := [.int .i64 s.f0, .int .u32 r, .bool s.f2.f0, .slice A3 s.f2.f1.length c3, .int .i64 s.f3]) S9 rfl rfl rfl rfl sz_23 0 rfl (.inl rfl) rfl rfl rfl ?_
 intro w11 S12 E13
 replace HR := Aside0.mk (Kd.V_step HR.out (fun k_ hk_ hl_ => E13.block k_ hl_ (fun e_ => by have o_ := S9.own _ (List.mem_of_getElem? (i := 0) rfl) rfl; try dsimp only at o_ e_; have b_ := hPN k_ hk_; omega)))
 replace HL := Aside0.mk (Kd.V_step HL.out (fun k_ hk_ hl_ => E13.block k_ hl_ (fun e_ => by have o_ := S9.own _ (List.mem_of_getElem? (i := 0) rfl) rfl; try dsimp only at o_ e_; have b_ := hPN k_ hk_; omega)))
 refine q_nil ?_
 refine x_seq ?_
 refine s_seq ?_
 refine s_seq ?_
 refine s_region ?_
 refine qv (v := .int .u32 r) (r_move rfl) ?_
 refine qo ?_
 refine e_call (args := [.int .u32 r, .int .i64 28]) Try.func59 (by kernel_rfl) rfl rfl ?_
 refine (purlieuref01_Has.calls r 28 true _ (by rw [has_28 r hr0, decide_eq_false h28]; rfl)).mono ?_
 rintro e w14 ⟨rfl, hd⟩
 refine ⟨_, rfl, ?_⟩
 have B15 := (Drawn0.below hd)
 have S16 := S12.call B15
 replace HR := vb HR B15
 replace HL := vb HL B15
 refine qv (v := .bool false) (r_not rfl rfl) ?_
 refine q_nil ?_
 refine x_seq ?_
 refine s_false rfl ?_
 refine s_skip ?_
 refine x_seq ?_
 refine s_seq ?_
 refine s_seq ?_
 refine s_region ?_
 refine qv (v := .int .u32 r) (r_move rfl) ?_
 refine qo ?_
 refine e_call (args := [.int .u32 r, .int .i64 9]) Try.func59 (by kernel_rfl) rfl rfl ?_
 refine (purlieuref01_Has.calls r 9 false _ (by rw [has_9 r hr0, decide_eq_true h9]; rfl)).mono ?_
 rintro e w17 ⟨rfl, hd⟩
 refine ⟨_, rfl, ?_⟩
 have B18 := (Drawn0.below hd)
 have S19 := S16.call B18
 replace HR := vb HR B18
 replace HL := vb HL B18
 refine qv (v := .bool true) (r_not rfl rfl) ?_
 refine q_nil ?_
 refine x_seq ?_
 refine s_true rfl ?_
 refine s_region ?_
 refine qv (v := .pointer (some ⟨g4, 4, none⟩)) (r_field fld_28_3 rfl rfl) ?_
 refine qo ?_
 refine e_store (vs := [.int .i64 0]) (cs' := [.int .i64 s.f0, .int .u32 r, .bool s.f2.f0, .slice A3 s.f2.f1.length c3, .int .i64 0]) S19 rfl rfl rfl rfl sz_3 0 rfl (.inl rfl) rfl rfl rfl ?_
 intro w20 S21 E22
 replace HR := Aside0.mk (Kd.V_step HR.out (fun k_ hk_ hl_ => E22.block k_ hl_ (fun e_ => by have o_ := S19.own _ (List.mem_of_getElem? (i := 0) rfl) rfl; try dsimp only at o_ e_; have b_ := hPN k_ hk_; omega)))
 replace HL := Aside0.mk (Kd.V_step HL.out (fun k_ hk_ hl_ => E22.block k_ hl_ (fun e_ => by have o_ := S19.own _ (List.mem_of_getElem? (i := 0) rfl) rfl; try dsimp only at o_ e_; have b_ := hPN k_ hk_; omega)))
 refine q_nil ?_
 refine x_seq ?_
 refine s_seq ?_
 refine s_region ?_
 refine qv (v := .slice (some ad) ((ls ss).length) c) (r_move rfl) ?_
 refine qv (v := .int .i64 fd) (r_move rfl) ?_
 refine qv (v := .agg #[.int .i64 s.f0, .int .u32 r, .bool s.f2.f0, .slice A3 s.f2.f1.length c3, .int .i64 0]) (r_loadN (vs := [.int .i64 s.f0, .int .u32 r, .bool s.f2.f0, .slice A3 s.f2.f1.length c3, .int .i64 0]) sz_28 rfl (S21.blk 0 rfl) rfl rfl) ?_
 refine qo ?_
 refine e_call (args := [.slice (some ad) ((ls ss).length) c, .int .i64 fd, .agg #[.int .i64 s.f0, .int .u32 r, .bool s.f2.f0, .slice A3 s.f2.f1.length c3, .int .i64 0]]) Try.func44 (by kernel_rfl) rfl rfl ?_
 have HBw := Aside0.mk S21.ext.size
 have hV_ := HR.out
 refine (With_ls HL.out hl fd h0 (by omega) (some (⟨s.f0, r, s.f2, 0⟩ : Slot)) hV_).mono ?_
 rintro e w23 ⟨ad2, c2, rfl, hL2, hb⟩
 refine ⟨_, rfl, ?_⟩
 have B24 := hb
 have S25 := S21.call B24
 replace HR := vb HR B24
 replace HL := vb HL B24
 have HL2 := Aside0.mk hL2
 refine qv (v := .slice (some ad2) ((ls (ss.set fd.toNat (some (⟨s.f0, r, s.f2, 0⟩ : Slot)))).length) c2) (r_assign rfl) ?_
 refine qv (v := .int .i64 0) (r_assign rfl) ?_
 refine q_nil ?_
 refine x_seq ?_
 refine s_ret ?_
 refine t_ret2 (v := .slice (some ad2) ((ls (ss.set fd.toNat (some (⟨s.f0, r, s.f2, 0⟩ : Slot)))).length) c2) (v' := .int .i64 0) rfl rfl rfl ?_
 exact ⟨ad2, c2, rfl, Kd.V_mono HL2.out (fun k_ hk_ => by have hz_ := HBw.out; rcases hk_ with (h_ | h_) | h_ <;> first | exact .inl h_ | (right; omega)), S25.ext.below⟩
set_option maxHeartbeats 8000000 in
set_option maxRecDepth 100000 in
theorem RLimit_ft {w : World} {P : Nat → Prop} {ad : Addr} {c : Nat} {ss : List (Option Slot)} (hL : LV w P ad c (ls ss)) (hPN : ∀ k, P k → k < w.heap.size) (fd : Int) (hl : ss.length ≤ 64) (h0 : 0 ≤ fd) {s : Slot} (hs : ss[fd.toNat]? = some (some s)) (r : Int) (hr0 : 0 ≤ r) (hG : purlieuref13_Get.f 40 (ls ss) fd r = some 0) (h28 : Go.bits .and .u32 r 268435456 = 0) (h9 : ¬ Go.bits .and .u32 r 512 = 0) : Calls Try.prog 45 #[.slice (some ad) ((ls ss).length) c, .int .i64 fd, .int .u32 r] w fun e' w' => ∃ ad' c', e' = .returned (.tuple #[.slice (some ad') (ls (ss.set fd.toNat (some ⟨s.f0, r, ⟨false, []⟩, s.f3⟩))).length c', .int .i64 0]) ∧ LV w' (fun k => (P k ∨ w.heap.size ≤ k)) ad' c' (ls (ss.set fd.toNat (some ⟨s.f0, r, ⟨false, []⟩, s.f3⟩))) ∧ Below w.heap.size w w' := by
 have hlt := get_lt hs
 have hll := ls_len ss
 obtain ⟨ob, hob⟩ := LV_ob hL (by omega)
 obtain ⟨A3, c3, hcell, h3, hF⟩ := LV_at hL h0 hs
 have HR := Aside0.mk (show Kd.V (Kd.int .i64) 3 w 0 P (.slice A3 s.f2.f1.length c3) s.f2.f1 from Kd.V_mk h3 hF)
 have S0 := St.add (St.start w no) hob (fun x hx => by cases hx)
 have HL := Aside0.mk hL
 refine s_enter (n := 37) (L := [(0, .slice (some ad) ((ls ss).length) c), (1, .int .i64 fd), (2, .int .u32 r)]) Try.func45 rfl rfl rfl rfl ?_
 refine s_seq ?_
 refine s_region ?_
 refine qv (v := .slice none 0 0) (r_assign rfl) ?_
 refine qv (v := .int .i64 0) (r_assign rfl) ?_
 refine q_nil ?_
 refine x_seq ?_
 refine s_seq ?_
 refine s_seq ?_
 refine s_region ?_
 refine qv (v := .slice (some ad) ((ls ss).length) c) (r_move rfl) ?_
 refine qv (v := .int .i64 fd) (r_move rfl) ?_
 refine qv (v := .int .u32 r) (r_move rfl) ?_
 refine qo ?_
 refine e_call (args := [.slice (some ad) ((ls ss).length) c, .int .i64 fd, .int .u32 r]) Try.func20 (by kernel_rfl) rfl rfl ?_
 refine (purlieuref13_Get.calls 40 (some ad) c (ls ss) fd r 0 _ (LV_C HL.out).1 (LV_C HL.out).2 hG).mono ?_
 rintro e w1 ⟨rfl, hd⟩
 refine ⟨_, rfl, ?_⟩
 have B2 := (Drawn0.below hd)
 have S3 := S0.call B2
 replace HR := vb HR B2
 replace HL := vb HL B2
 refine qv (v := .int .i64 0) (r_assign rfl) ?_
 refine q_nil ?_
 refine x_seq ?_
 refine s_seq ?_
 refine s_region ?_
 refine qv (v := .int .i64 0) (r_move rfl) ?_
 refine qv (v := .bool false) (r_neq rfl rfl (bne_f (by omega))) ?_
 refine q_nil ?_
 refine x_seq ?_
 refine s_false rfl ?_
 refine s_skip ?_
 refine x_seq ?_
 refine s_seq ?_
 refine s_region ?_
 refine qv (v := .slice (some ad) ((ls ss).length) c) (r_move rfl) ?_
 refine qv (v := .int .i64 fd) (r_move rfl) ?_
 refine qv (v := .pointer (some (ad.add (fd.toNat * 5)))) (r_indexA elm_47 rfl rfl (by omega) (by omega) rfl) ?_
 refine qv (v := .agg #[.int .i64 s.f0, .int .u32 s.f1, .bool s.f2.f0, .slice A3 s.f2.f1.length c3, .int .i64 s.f3]) (r_loadNA sz_28 rfl rfl (cells_raw (vs := [.int .i64 s.f0, .int .u32 s.f1, .bool s.f2.f0, .slice A3 s.f2.f1.length c3, .int .i64 s.f3]) rfl hob (S3.blk 0 rfl) hcell)) ?_
 refine qo ?_
 refine e_alloc S3 zro_28 ?_
 intro g4 w5 hg4 S6 B7
 replace HR := vb HR B7
 replace HL := vb HL B7
 refine qo ?_
 refine e_store (vs := [.int .i64 s.f0, .int .u32 s.f1, .bool s.f2.f0, .slice A3 s.f2.f1.length c3, .int .i64 s.f3]) (cs' := [.int .i64 s.f0, .int .u32 s.f1, .bool s.f2.f0, .slice A3 s.f2.f1.length c3, .int .i64 s.f3]) S6 rfl rfl rfl rfl sz_28 0 rfl (.inl rfl) rfl rfl rfl ?_
 intro w8 S9 E10
 replace HR := Aside0.mk (Kd.V_step HR.out (fun k_ hk_ hl_ => E10.block k_ hl_ (fun e_ => by have o_ := S6.own _ (List.mem_of_getElem? (i := 0) rfl) rfl; try dsimp only at o_ e_; have b_ := hPN k_ hk_; omega)))
 replace HL := Aside0.mk (Kd.V_step HL.out (fun k_ hk_ hl_ => E10.block k_ hl_ (fun e_ => by have o_ := S6.own _ (List.mem_of_getElem? (i := 0) rfl) rfl; try dsimp only at o_ e_; have b_ := hPN k_ hk_; omega)))
 refine q_nil ?_
 refine x_seq ?_
 refine s_seq ?_
 refine s_region ?_
 refine qv (v := .int .u32 r) (r_move rfl) ?_
 refine qv (v := .pointer (some ⟨g4, 1, none⟩)) (r_field fld_28_1 rfl rfl) ?_
 refine qo ?_
 refine e_store (vs := [.int .u32 r]) (cs' := [.int .i64 s.f0, .int .u32 r, .bool s.f2.f0, .slice A3 s.f2.f1.length c3, .int .i64 s.f3]) S9 rfl rfl rfl rfl sz_23 0 rfl (.inl rfl) rfl rfl rfl ?_
 intro w11 S12 E13
 replace HR := Aside0.mk (Kd.V_step HR.out (fun k_ hk_ hl_ => E13.block k_ hl_ (fun e_ => by have o_ := S9.own _ (List.mem_of_getElem? (i := 0) rfl) rfl; try dsimp only at o_ e_; have b_ := hPN k_ hk_; omega)))
 replace HL := Aside0.mk (Kd.V_step HL.out (fun k_ hk_ hl_ => E13.block k_ hl_ (fun e_ => by have o_ := S9.own _ (List.mem_of_getElem? (i := 0) rfl) rfl; try dsimp only at o_ e_; have b_ := hPN k_ hk_; omega)))
 refine q_nil ?_
 refine x_seq ?_
 refine s_seq ?_
 refine s_seq ?_
 refine s_region ?_
 refine qv (v := .int .u32 r) (r_move rfl) ?_
 refine qo ?_
 refine e_call (args := [.int .u32 r, .int .i64 28]) Try.func59 (by kernel_rfl) rfl rfl ?_
 refine (purlieuref01_Has.calls r 28 false _ (by rw [has_28 r hr0, decide_eq_true h28]; rfl)).mono ?_
 rintro e w14 ⟨rfl, hd⟩
 refine ⟨_, rfl, ?_⟩
 have B15 := (Drawn0.below hd)
 have S16 := S12.call B15
 replace HR := vb HR B15
 replace HL := vb HL B15
 refine qv (v := .bool true) (r_not rfl rfl) ?_
 refine q_nil ?_
 refine x_seq ?_
 refine s_true rfl ?_
 refine s_region ?_
 refine qv (v := .agg #[.bool false, .slice none 0 0]) (r_build (ps := []) rfl (by kernel_rfl)) ?_
 refine qv (v := .pointer (some ⟨g4, 2, none⟩)) (r_field fld_28_2 rfl rfl) ?_
 refine qo ?_
 refine e_store (vs := [.bool false, .slice none 0 0]) (cs' := [.int .i64 s.f0, .int .u32 r, .bool false, .slice none 0 0, .int .i64 s.f3]) S16 rfl rfl rfl rfl sz_26 0 rfl (.inl rfl) rfl rfl rfl ?_
 intro w17 S18 E19
 replace HR := Aside0.mk (Kd.V_step HR.out (fun k_ hk_ hl_ => E19.block k_ hl_ (fun e_ => by have o_ := S16.own _ (List.mem_of_getElem? (i := 0) rfl) rfl; try dsimp only at o_ e_; have b_ := hPN k_ hk_; omega)))
 replace HL := Aside0.mk (Kd.V_step HL.out (fun k_ hk_ hl_ => E19.block k_ hl_ (fun e_ => by have o_ := S16.own _ (List.mem_of_getElem? (i := 0) rfl) rfl; try dsimp only at o_ e_; have b_ := hPN k_ hk_; omega)))
 refine q_nil ?_
 refine x_seq ?_
 refine s_seq ?_
 refine s_seq ?_
 refine s_region ?_
 refine qv (v := .int .u32 r) (r_move rfl) ?_
 refine qo ?_
 refine e_call (args := [.int .u32 r, .int .i64 9]) Try.func59 (by kernel_rfl) rfl rfl ?_
 refine (purlieuref01_Has.calls r 9 true _ (by rw [has_9 r hr0, decide_eq_false h9]; rfl)).mono ?_
 rintro e w20 ⟨rfl, hd⟩
 refine ⟨_, rfl, ?_⟩
 have B21 := (Drawn0.below hd)
 have S22 := S18.call B21
 replace HR := vb HR B21
 replace HL := vb HL B21
 refine qv (v := .bool false) (r_not rfl rfl) ?_
 refine q_nil ?_
 refine x_seq ?_
 refine s_false rfl ?_
 refine s_skip ?_
 refine x_seq ?_
 refine s_seq ?_
 refine s_region ?_
 refine qv (v := .slice (some ad) ((ls ss).length) c) (r_move rfl) ?_
 refine qv (v := .int .i64 fd) (r_move rfl) ?_
 refine qv (v := .agg #[.int .i64 s.f0, .int .u32 r, .bool false, .slice none 0 0, .int .i64 s.f3]) (r_loadN (vs := [.int .i64 s.f0, .int .u32 r, .bool false, .slice none 0 0, .int .i64 s.f3]) sz_28 rfl (S22.blk 0 rfl) rfl rfl) ?_
 refine qo ?_
 refine e_call (args := [.slice (some ad) ((ls ss).length) c, .int .i64 fd, .agg #[.int .i64 s.f0, .int .u32 r, .bool false, .slice none 0 0, .int .i64 s.f3]]) Try.func44 (by kernel_rfl) rfl rfl ?_
 have HBw := Aside0.mk S22.ext.size
 have hV_ := Kd.V_nil (Kd.int .i64) 3 w20 0 P
 refine (With_ls HL.out hl fd h0 (by omega) (some (⟨s.f0, r, ⟨false, []⟩, s.f3⟩ : Slot)) hV_).mono ?_
 rintro e w23 ⟨ad2, c2, rfl, hL2, hb⟩
 refine ⟨_, rfl, ?_⟩
 have B24 := hb
 have S25 := S22.call B24
 replace HR := vb HR B24
 replace HL := vb HL B24
 have HL2 := Aside0.mk hL2
 refine qv (v := .slice (some ad2) ((ls (ss.set fd.toNat (some (⟨s.f0, r, ⟨false, []⟩, s.f3⟩ : Slot)))).length) c2) (r_assign rfl) ?_
 refine qv (v := .int .i64 0) (r_assign rfl) ?_
 refine q_nil ?_
 refine x_seq ?_
 refine s_ret ?_
 refine t_ret2 (v := .slice (some ad2) ((ls (ss.set fd.toNat (some (⟨s.f0, r, ⟨false, []⟩, s.f3⟩ : Slot)))).length) c2) (v' := .int .i64 0) rfl rfl rfl ?_
 exact ⟨ad2, c2, rfl, Kd.V_mono HL2.out (fun k_ hk_ => by have hz_ := HBw.out; rcases hk_ with (h_ | h_) | h_ <;> first | exact .inl h_ | (right; omega)), S25.ext.below⟩
set_option maxHeartbeats 8000000 in
set_option maxRecDepth 100000 in
theorem RLimit_ff {w : World} {P : Nat → Prop} {ad : Addr} {c : Nat} {ss : List (Option Slot)} (hL : LV w P ad c (ls ss)) (hPN : ∀ k, P k → k < w.heap.size) (fd : Int) (hl : ss.length ≤ 64) (h0 : 0 ≤ fd) {s : Slot} (hs : ss[fd.toNat]? = some (some s)) (r : Int) (hr0 : 0 ≤ r) (hG : purlieuref13_Get.f 40 (ls ss) fd r = some 0) (h28 : Go.bits .and .u32 r 268435456 = 0) (h9 : Go.bits .and .u32 r 512 = 0) : Calls Try.prog 45 #[.slice (some ad) ((ls ss).length) c, .int .i64 fd, .int .u32 r] w fun e' w' => ∃ ad' c', e' = .returned (.tuple #[.slice (some ad') (ls (ss.set fd.toNat (some ⟨s.f0, r, ⟨false, []⟩, 0⟩))).length c', .int .i64 0]) ∧ LV w' (fun k => (P k ∨ w.heap.size ≤ k)) ad' c' (ls (ss.set fd.toNat (some ⟨s.f0, r, ⟨false, []⟩, 0⟩))) ∧ Below w.heap.size w w' := by
 have hlt := get_lt hs
 have hll := ls_len ss
 obtain ⟨ob, hob⟩ := LV_ob hL (by omega)
 obtain ⟨A3, c3, hcell, h3, hF⟩ := LV_at hL h0 hs
 have HR := Aside0.mk (show Kd.V (Kd.int .i64) 3 w 0 P (.slice A3 s.f2.f1.length c3) s.f2.f1 from Kd.V_mk h3 hF)
 have S0 := St.add (St.start w no) hob (fun x hx => by cases hx)
 have HL := Aside0.mk hL
 refine s_enter (n := 37) (L := [(0, .slice (some ad) ((ls ss).length) c), (1, .int .i64 fd), (2, .int .u32 r)]) Try.func45 rfl rfl rfl rfl ?_
 refine s_seq ?_
 refine s_region ?_
 refine qv (v := .slice none 0 0) (r_assign rfl) ?_
 refine qv (v := .int .i64 0) (r_assign rfl) ?_
 refine q_nil ?_
 refine x_seq ?_
 refine s_seq ?_
 refine s_seq ?_
 refine s_region ?_
 refine qv (v := .slice (some ad) ((ls ss).length) c) (r_move rfl) ?_
 refine qv (v := .int .i64 fd) (r_move rfl) ?_
 refine qv (v := .int .u32 r) (r_move rfl) ?_
 refine qo ?_
 refine e_call (args := [.slice (some ad) ((ls ss).length) c, .int .i64 fd, .int .u32 r]) Try.func20 (by kernel_rfl) rfl rfl ?_
 refine (purlieuref13_Get.calls 40 (some ad) c (ls ss) fd r 0 _ (LV_C HL.out).1 (LV_C HL.out).2 hG).mono ?_
 rintro e w1 ⟨rfl, hd⟩
 refine ⟨_, rfl, ?_⟩
 have B2 := (Drawn0.below hd)
 have S3 := S0.call B2
 replace HR := vb HR B2
 replace HL := vb HL B2
 refine qv (v := .int .i64 0) (r_assign rfl) ?_
 refine q_nil ?_
 refine x_seq ?_
 refine s_seq ?_
 refine s_region ?_
 refine qv (v := .int .i64 0) (r_move rfl) ?_
 refine qv (v := .bool false) (r_neq rfl rfl (bne_f (by omega))) ?_
 refine q_nil ?_
 refine x_seq ?_
 refine s_false rfl ?_
 refine s_skip ?_
 refine x_seq ?_
 refine s_seq ?_
 refine s_region ?_
 refine qv (v := .slice (some ad) ((ls ss).length) c) (r_move rfl) ?_
 refine qv (v := .int .i64 fd) (r_move rfl) ?_
 refine qv (v := .pointer (some (ad.add (fd.toNat * 5)))) (r_indexA elm_47 rfl rfl (by omega) (by omega) rfl) ?_
 refine qv (v := .agg #[.int .i64 s.f0, .int .u32 s.f1, .bool s.f2.f0, .slice A3 s.f2.f1.length c3, .int .i64 s.f3]) (r_loadNA sz_28 rfl rfl (cells_raw (vs := [.int .i64 s.f0, .int .u32 s.f1, .bool s.f2.f0, .slice A3 s.f2.f1.length c3, .int .i64 s.f3]) rfl hob (S3.blk 0 rfl) hcell)) ?_
 refine qo ?_
 refine e_alloc S3 zro_28 ?_
 intro g4 w5 hg4 S6 B7
 replace HR := vb HR B7
 replace HL := vb HL B7
 refine qo ?_
 refine e_store (vs := [.int .i64 s.f0, .int .u32 s.f1, .bool s.f2.f0, .slice A3 s.f2.f1.length c3, .int .i64 s.f3]) (cs' := [.int .i64 s.f0, .int .u32 s.f1, .bool s.f2.f0, .slice A3 s.f2.f1.length c3, .int .i64 s.f3]) S6 rfl rfl rfl rfl sz_28 0 rfl (.inl rfl) rfl rfl rfl ?_
 intro w8 S9 E10
 replace HR := Aside0.mk (Kd.V_step HR.out (fun k_ hk_ hl_ => E10.block k_ hl_ (fun e_ => by have o_ := S6.own _ (List.mem_of_getElem? (i := 0) rfl) rfl; try dsimp only at o_ e_; have b_ := hPN k_ hk_; omega)))
 replace HL := Aside0.mk (Kd.V_step HL.out (fun k_ hk_ hl_ => E10.block k_ hl_ (fun e_ => by have o_ := S6.own _ (List.mem_of_getElem? (i := 0) rfl) rfl; try dsimp only at o_ e_; have b_ := hPN k_ hk_; omega)))
 refine q_nil ?_
 refine x_seq ?_
 refine s_seq ?_
 refine s_region ?_
 refine qv (v := .int .u32 r) (r_move rfl) ?_
 refine qv (v := .pointer (some ⟨g4, 1, none⟩)) (r_field fld_28_1 rfl rfl) ?_
 refine qo ?_
 refine e_store (vs := [.int .u32 r]) (cs' := [.int .i64 s.f0, .int .u32 r, .bool s.f2.f0, .slice A3 s.f2.f1.length c3, .int .i64 s.f3]) S9 rfl rfl rfl rfl sz_23 0 rfl (.inl rfl) rfl rfl rfl ?_
 intro w11 S12 E13
 replace HR := Aside0.mk (Kd.V_step HR.out (fun k_ hk_ hl_ => E13.block k_ hl_ (fun e_ => by have o_ := S9.own _ (List.mem_of_getElem? (i := 0) rfl) rfl; try dsimp only at o_ e_; have b_ := hPN k_ hk_; omega)))
 replace HL := Aside0.mk (Kd.V_step HL.out (fun k_ hk_ hl_ => E13.block k_ hl_ (fun e_ => by have o_ := S9.own _ (List.mem_of_getElem? (i := 0) rfl) rfl; try dsimp only at o_ e_; have b_ := hPN k_ hk_; omega)))
 refine q_nil ?_
 refine x_seq ?_
 refine s_seq ?_
 refine s_seq ?_
 refine s_region ?_
 refine qv (v := .int .u32 r) (r_move rfl) ?_
 refine qo ?_
 refine e_call (args := [.int .u32 r, .int .i64 28]) Try.func59 (by kernel_rfl) rfl rfl ?_
 refine (purlieuref01_Has.calls r 28 false _ (by rw [has_28 r hr0, decide_eq_true h28]; rfl)).mono ?_
 rintro e w14 ⟨rfl, hd⟩
 refine ⟨_, rfl, ?_⟩
 have B15 := (Drawn0.below hd)
 have S16 := S12.call B15
 replace HR := vb HR B15
 replace HL := vb HL B15
 refine qv (v := .bool true) (r_not rfl rfl) ?_
 refine q_nil ?_
 refine x_seq ?_
 refine s_true rfl ?_
 refine s_region ?_
 refine qv (v := .agg #[.bool false, .slice none 0 0]) (r_build (ps := []) rfl (by kernel_rfl)) ?_
 refine qv (v := .pointer (some ⟨g4, 2, none⟩)) (r_field fld_28_2 rfl rfl) ?_
 refine qo ?_
 refine e_store (vs := [.bool false, .slice none 0 0]) (cs' := [.int .i64 s.f0, .int .u32 r, .bool false, .slice none 0 0, .int .i64 s.f3]) S16 rfl rfl rfl rfl sz_26 0 rfl (.inl rfl) rfl rfl rfl ?_
 intro w17 S18 E19
 replace HR := Aside0.mk (Kd.V_step HR.out (fun k_ hk_ hl_ => E19.block k_ hl_ (fun e_ => by have o_ := S16.own _ (List.mem_of_getElem? (i := 0) rfl) rfl; try dsimp only at o_ e_; have b_ := hPN k_ hk_; omega)))
 replace HL := Aside0.mk (Kd.V_step HL.out (fun k_ hk_ hl_ => E19.block k_ hl_ (fun e_ => by have o_ := S16.own _ (List.mem_of_getElem? (i := 0) rfl) rfl; try dsimp only at o_ e_; have b_ := hPN k_ hk_; omega)))
 refine q_nil ?_
 refine x_seq ?_
 refine s_seq ?_
 refine s_seq ?_
 refine s_region ?_
 refine qv (v := .int .u32 r) (r_move rfl) ?_
 refine qo ?_
 refine e_call (args := [.int .u32 r, .int .i64 9]) Try.func59 (by kernel_rfl) rfl rfl ?_
 refine (purlieuref01_Has.calls r 9 false _ (by rw [has_9 r hr0, decide_eq_true h9]; rfl)).mono ?_
 rintro e w20 ⟨rfl, hd⟩
 refine ⟨_, rfl, ?_⟩
 have B21 := (Drawn0.below hd)
 have S22 := S18.call B21
 replace HR := vb HR B21
 replace HL := vb HL B21
 refine qv (v := .bool true) (r_not rfl rfl) ?_
 refine q_nil ?_
 refine x_seq ?_
 refine s_true rfl ?_
 refine s_region ?_
 refine qv (v := .pointer (some ⟨g4, 4, none⟩)) (r_field fld_28_3 rfl rfl) ?_
 refine qo ?_
 refine e_store (vs := [.int .i64 0]) (cs' := [.int .i64 s.f0, .int .u32 r, .bool false, .slice none 0 0, .int .i64 0]) S22 rfl rfl rfl rfl sz_3 0 rfl (.inl rfl) rfl rfl rfl ?_
 intro w23 S24 E25
 replace HR := Aside0.mk (Kd.V_step HR.out (fun k_ hk_ hl_ => E25.block k_ hl_ (fun e_ => by have o_ := S22.own _ (List.mem_of_getElem? (i := 0) rfl) rfl; try dsimp only at o_ e_; have b_ := hPN k_ hk_; omega)))
 replace HL := Aside0.mk (Kd.V_step HL.out (fun k_ hk_ hl_ => E25.block k_ hl_ (fun e_ => by have o_ := S22.own _ (List.mem_of_getElem? (i := 0) rfl) rfl; try dsimp only at o_ e_; have b_ := hPN k_ hk_; omega)))
 refine q_nil ?_
 refine x_seq ?_
 refine s_seq ?_
 refine s_region ?_
 refine qv (v := .slice (some ad) ((ls ss).length) c) (r_move rfl) ?_
 refine qv (v := .int .i64 fd) (r_move rfl) ?_
 refine qv (v := .agg #[.int .i64 s.f0, .int .u32 r, .bool false, .slice none 0 0, .int .i64 0]) (r_loadN (vs := [.int .i64 s.f0, .int .u32 r, .bool false, .slice none 0 0, .int .i64 0]) sz_28 rfl (S24.blk 0 rfl) rfl rfl) ?_
 refine qo ?_
 refine e_call (args := [.slice (some ad) ((ls ss).length) c, .int .i64 fd, .agg #[.int .i64 s.f0, .int .u32 r, .bool false, .slice none 0 0, .int .i64 0]]) Try.func44 (by kernel_rfl) rfl rfl ?_
 have HBw := Aside0.mk S24.ext.size
 have hV_ := Kd.V_nil (Kd.int .i64) 3 w23 0 P
 refine (With_ls HL.out hl fd h0 (by omega) (some (⟨s.f0, r, ⟨false, []⟩, 0⟩ : Slot)) hV_).mono ?_
 rintro e w26 ⟨ad2, c2, rfl, hL2, hb⟩
 refine ⟨_, rfl, ?_⟩
 have B27 := hb
 have S28 := S24.call B27
 replace HR := vb HR B27
 replace HL := vb HL B27
 have HL2 := Aside0.mk hL2
 refine qv (v := .slice (some ad2) ((ls (ss.set fd.toNat (some (⟨s.f0, r, ⟨false, []⟩, 0⟩ : Slot)))).length) c2) (r_assign rfl) ?_
 refine qv (v := .int .i64 0) (r_assign rfl) ?_
 refine q_nil ?_
 refine x_seq ?_
 refine s_ret ?_
 refine t_ret2 (v := .slice (some ad2) ((ls (ss.set fd.toNat (some (⟨s.f0, r, ⟨false, []⟩, 0⟩ : Slot)))).length) c2) (v' := .int .i64 0) rfl rfl rfl ?_
 exact ⟨ad2, c2, rfl, Kd.V_mono HL2.out (fun k_ hk_ => by have hz_ := HBw.out; rcases hk_ with (h_ | h_) | h_ <;> first | exact .inl h_ | (right; omega)), S28.ext.below⟩
end Go.Proofs.Ytilfalpfanaanaa.PA

namespace Go.Proofs.Ytilfalpfanaanaa.PA
open Go.RowKit Go.Proofs.YtilfalpfanaanaaW.PrintWords Go.Proofs.YtilfalpfanaanaaW.PrintLast Go.Proofs.YtilfalpfanaanaaW.PrintMore Go.Proofs.Ytilfalpfanaanaa.Sx
set_option maxHeartbeats 8000000 in
set_option maxRecDepth 100000 in
theorem RFc_no {w : World} {P : Nat → Prop} {ad : Addr} {c : Nat} {ss : List (Option Slot)} (hL : LV w P ad c (ls ss)) (hPN : ∀ k, P k → k < w.heap.size) (fd : Int) (m e : Int) (hG : purlieuref13_Get.f 40 (ls ss) fd 0 = some e) (he : e ≠ 0) : Calls Try.prog 47 #[.slice (some ad) ((ls ss).length) c, .int .i64 fd, .int .i64 m] w fun e' w' => e' = .returned (.tuple #[.slice (some ad) ((ls ss).length) c, .int .i64 e]) ∧ Below w.heap.size w w' := by
 have HL := Aside0.mk hL
 refine s_enter (n := 40) (L := [(0, .slice (some ad) ((ls ss).length) c), (1, .int .i64 fd), (2, .int .i64 m)]) Try.func47 rfl rfl rfl rfl ?_
 have S1 := St.start w no
 refine s_seq ?_
 refine s_region ?_
 refine qv (v := .slice none 0 0) (r_assign rfl) ?_
 refine qv (v := .int .i64 0) (r_assign rfl) ?_
 refine q_nil ?_
 refine x_seq ?_
 refine s_seq ?_
 refine s_seq ?_
 refine s_region ?_
 refine qv (v := .slice (some ad) ((ls ss).length) c) (r_move rfl) ?_
 refine qv (v := .int .i64 fd) (r_move rfl) ?_
 refine qo ?_
 refine e_call (args := [.slice (some ad) ((ls ss).length) c, .int .i64 fd, .int .u32 0]) Try.func20 (by kernel_rfl) rfl rfl ?_
 refine (purlieuref13_Get.calls 40 (some ad) c (ls ss) fd 0 e _ (LV_C HL.out).1 (LV_C HL.out).2 hG).mono ?_
 rintro e w2 ⟨rfl, hd⟩
 refine ⟨_, rfl, ?_⟩
 have B3 := (Drawn0.below hd)
 have S4 := S1.call B3
 replace HL := vb HL B3
 refine qv (v := .int .i64 e) (r_assign rfl) ?_
 refine q_nil ?_
 refine x_seq ?_
 refine s_seq ?_
 refine s_region ?_
 refine qv (v := .int .i64 e) (r_move rfl) ?_
 refine qv (v := .bool true) (r_neq rfl rfl (bne_t (he))) ?_
 refine q_nil ?_
 refine x_seq ?_
 refine s_true rfl ?_
 refine s_seq ?_
 refine s_region ?_
 refine qv (v := .slice (some ad) ((ls ss).length) c) (r_move rfl) ?_
 refine qv (v := .int .i64 e) (r_move rfl) ?_
 refine qv (v := .slice (some ad) ((ls ss).length) c) (r_assign rfl) ?_
 refine qv (v := .int .i64 e) (r_assign rfl) ?_
 refine q_nil ?_
 refine x_seq ?_
 refine s_ret ?_
 refine x_seq_ret ?_
 refine t_ret2 (v := .slice (some ad) ((ls ss).length) c) (v' := .int .i64 e) rfl rfl rfl ?_
 exact ⟨rfl, S4.ext.below⟩
set_option maxHeartbeats 8000000 in
set_option maxRecDepth 100000 in
theorem RFc_bad {w : World} {P : Nat → Prop} {ad : Addr} {c : Nat} {ss : List (Option Slot)} (hL : LV w P ad c (ls ss)) (hPN : ∀ k, P k → k < w.heap.size) (fd : Int) (hl : ss.length ≤ 64) (h0 : 0 ≤ fd) {s : Slot} (hs : ss[fd.toNat]? = some (some s)) (m r1 r2 : Int) (hG : purlieuref13_Get.f 40 (ls ss) fd 0 = some 0) (hM : purlieuref02_Mask.f 400 s.f3 m = some (r1, r2)) (he : r2 ≠ 0) : Calls Try.prog 47 #[.slice (some ad) ((ls ss).length) c, .int .i64 fd, .int .i64 m] w fun e' w' => e' = .returned (.tuple #[.slice (some ad) ((ls ss).length) c, .int .i64 r2]) ∧ Below w.heap.size w w' := by
 have hlt := get_lt hs
 have hll := ls_len ss
 obtain ⟨ob, hob⟩ := LV_ob hL (by omega)
 obtain ⟨A3, c3, hcell, h3, hF⟩ := LV_at hL h0 hs
 have HR := Aside0.mk (show Kd.V (Kd.int .i64) 3 w 0 P (.slice A3 s.f2.f1.length c3) s.f2.f1 from Kd.V_mk h3 hF)
 have S0 := St.add (St.start w no) hob (fun x hx => by cases hx)
 have HL := Aside0.mk hL
 refine s_enter (n := 40) (L := [(0, .slice (some ad) ((ls ss).length) c), (1, .int .i64 fd), (2, .int .i64 m)]) Try.func47 rfl rfl rfl rfl ?_
 refine s_seq ?_
 refine s_region ?_
 refine qv (v := .slice none 0 0) (r_assign rfl) ?_
 refine qv (v := .int .i64 0) (r_assign rfl) ?_
 refine q_nil ?_
 refine x_seq ?_
 refine s_seq ?_
 refine s_seq ?_
 refine s_region ?_
 refine qv (v := .slice (some ad) ((ls ss).length) c) (r_move rfl) ?_
 refine qv (v := .int .i64 fd) (r_move rfl) ?_
 refine qo ?_
 refine e_call (args := [.slice (some ad) ((ls ss).length) c, .int .i64 fd, .int .u32 0]) Try.func20 (by kernel_rfl) rfl rfl ?_
 refine (purlieuref13_Get.calls 40 (some ad) c (ls ss) fd 0 0 _ (LV_C HL.out).1 (LV_C HL.out).2 hG).mono ?_
 rintro e w1 ⟨rfl, hd⟩
 refine ⟨_, rfl, ?_⟩
 have B2 := (Drawn0.below hd)
 have S3 := S0.call B2
 replace HR := vb HR B2
 replace HL := vb HL B2
 refine qv (v := .int .i64 0) (r_assign rfl) ?_
 refine q_nil ?_
 refine x_seq ?_
 refine s_seq ?_
 refine s_region ?_
 refine qv (v := .int .i64 0) (r_move rfl) ?_
 refine qv (v := .bool false) (r_neq rfl rfl (bne_f (by omega))) ?_
 refine q_nil ?_
 refine x_seq ?_
 refine s_false rfl ?_
 refine s_skip ?_
 refine x_seq ?_
 refine s_seq ?_
 refine s_region ?_
 refine qv (v := .slice (some ad) ((ls ss).length) c) (r_move rfl) ?_
 refine qv (v := .int .i64 fd) (r_move rfl) ?_
 refine qv (v := .pointer (some (ad.add (fd.toNat * 5)))) (r_indexA elm_47 rfl rfl (by omega) (by omega) rfl) ?_
 refine qv (v := .agg #[.int .i64 s.f0, .int .u32 s.f1, .bool s.f2.f0, .slice A3 s.f2.f1.length c3, .int .i64 s.f3]) (r_loadNA sz_28 rfl rfl (cells_raw (vs := [.int .i64 s.f0, .int .u32 s.f1, .bool s.f2.f0, .slice A3 s.f2.f1.length c3, .int .i64 s.f3]) rfl hob (S3.blk 0 rfl) hcell)) ?_
 refine qo ?_
 refine e_alloc S3 zro_28 ?_
 intro g4 w5 hg4 S6 B7
 replace HR := vb HR B7
 replace HL := vb HL B7
 refine qo ?_
 refine e_store (vs := [.int .i64 s.f0, .int .u32 s.f1, .bool s.f2.f0, .slice A3 s.f2.f1.length c3, .int .i64 s.f3]) (cs' := [.int .i64 s.f0, .int .u32 s.f1, .bool s.f2.f0, .slice A3 s.f2.f1.length c3, .int .i64 s.f3]) S6 rfl rfl rfl rfl sz_28 0 rfl (.inl rfl) rfl rfl rfl ?_
 intro w8 S9 E10
 replace HR := Aside0.mk (Kd.V_step HR.out (fun k_ hk_ hl_ => E10.block k_ hl_ (fun e_ => by have o_ := S6.own _ (List.mem_of_getElem? (i := 0) rfl) rfl; try dsimp only at o_ e_; have b_ := hPN k_ hk_; omega)))
 replace HL := Aside0.mk (Kd.V_step HL.out (fun k_ hk_ hl_ => E10.block k_ hl_ (fun e_ => by have o_ := S6.own _ (List.mem_of_getElem? (i := 0) rfl) rfl; try dsimp only at o_ e_; have b_ := hPN k_ hk_; omega)))
 refine q_nil ?_
 refine x_seq ?_
 refine s_seq ?_
 refine s_region ?_
 refine qv (v := .pointer (some ⟨g4, 4, none⟩)) (r_field fld_28_3 rfl rfl) ?_
 refine qv (v := .int .i64 s.f3) (r_load1 sz_3 rfl (S9.cell 0 rfl rfl)) ?_
 refine qv (v := .int .i64 m) (r_move rfl) ?_
 refine qo ?_
 refine e_call (args := [.int .i64 s.f3, .int .i64 m]) Try.func31 (by kernel_rfl) rfl rfl ?_
 refine (purlieuref02_Mask.calls 400 s.f3 m r1 r2 _ hM).mono ?_
 rintro e w11 ⟨rfl, hd⟩
 refine ⟨_, rfl, ?_⟩
 have B12 := (Drawn0.below hd)
 have S13 := S9.call B12
 replace HR := vb HR B12
 replace HL := vb HL B12
 refine qv (v := .tuple #[.int .i64 r1, .int .i64 r2]) (r_move rfl) ?_
 refine qv (v := .int .i64 r1) (r_extract rfl rfl) ?_
 refine qv (v := .int .i64 r2) (r_extract rfl rfl) ?_
 refine qv (v := .int .i64 r1) (r_assign rfl) ?_
 refine qv (v := .int .i64 r2) (r_assign rfl) ?_
 refine q_nil ?_
 refine x_seq ?_
 refine s_seq ?_
 refine s_seq ?_
 refine s_region ?_
 refine qv (v := .int .i64 r2) (r_move rfl) ?_
 refine qv (v := .bool true) (r_neq rfl rfl (bne_t (he))) ?_
 refine q_nil ?_
 refine x_seq ?_
 refine s_true rfl ?_
 refine s_seq ?_
 refine s_region ?_
 refine qv (v := .slice (some ad) ((ls ss).length) c) (r_move rfl) ?_
 refine qv (v := .int .i64 r2) (r_move rfl) ?_
 refine qv (v := .slice (some ad) ((ls ss).length) c) (r_assign rfl) ?_
 refine qv (v := .int .i64 r2) (r_assign rfl) ?_
 refine q_nil ?_
 refine x_seq ?_
 refine s_ret ?_
 refine x_seq_ret ?_
 refine t_ret2 (v := .slice (some ad) ((ls ss).length) c) (v' := .int .i64 r2) rfl rfl rfl ?_
 exact ⟨rfl, S13.ext.below⟩
set_option maxHeartbeats 8000000 in
set_option maxRecDepth 100000 in
theorem RFc_ok {w : World} {P : Nat → Prop} {ad : Addr} {c : Nat} {ss : List (Option Slot)} (hL : LV w P ad c (ls ss)) (hPN : ∀ k, P k → k < w.heap.size) (fd : Int) (hl : ss.length ≤ 64) (h0 : 0 ≤ fd) {s : Slot} (hs : ss[fd.toNat]? = some (some s)) (m r1 : Int) (hG : purlieuref13_Get.f 40 (ls ss) fd 0 = some 0) (hM : purlieuref02_Mask.f 400 s.f3 m = some (r1, 0)) : Calls Try.prog 47 #[.slice (some ad) ((ls ss).length) c, .int .i64 fd, .int .i64 m] w fun e' w' => ∃ ad' c', e' = .returned (.tuple #[.slice (some ad') (ls (ss.set fd.toNat (some ⟨s.f0, s.f1, s.f2, r1⟩))).length c', .int .i64 0]) ∧ LV w' (fun k => (P k ∨ w.heap.size ≤ k)) ad' c' (ls (ss.set fd.toNat (some ⟨s.f0, s.f1, s.f2, r1⟩))) ∧ Below w.heap.size w w' := by
 have hlt := get_lt hs
 have hll := ls_len ss
 obtain ⟨ob, hob⟩ := LV_ob hL (by omega)
 obtain ⟨A3, c3, hcell, h3, hF⟩ := LV_at hL h0 hs
 have HR := Aside0.mk (show Kd.V (Kd.int .i64) 3 w 0 P (.slice A3 s.f2.f1.length c3) s.f2.f1 from Kd.V_mk h3 hF)
 have S0 := St.add (St.start w no) hob (fun x hx => by cases hx)
 have HL := Aside0.mk hL
 refine s_enter (n := 40) (L := [(0, .slice (some ad) ((ls ss).length) c), (1, .int .i64 fd), (2, .int .i64 m)]) Try.func47 rfl rfl rfl rfl ?_
 refine s_seq ?_
 refine s_region ?_
 refine qv (v := .slice none 0 0) (r_assign rfl) ?_
 refine qv (v := .int .i64 0) (r_assign rfl) ?_
 refine q_nil ?_
 refine x_seq ?_
 refine s_seq ?_
 refine s_seq ?_
 refine s_region ?_
 refine qv (v := .slice (some ad) ((ls ss).length) c) (r_move rfl) ?_
 refine qv (v := .int .i64 fd) (r_move rfl) ?_
 refine qo ?_
 refine e_call (args := [.slice (some ad) ((ls ss).length) c, .int .i64 fd, .int .u32 0]) Try.func20 (by kernel_rfl) rfl rfl ?_
 refine (purlieuref13_Get.calls 40 (some ad) c (ls ss) fd 0 0 _ (LV_C HL.out).1 (LV_C HL.out).2 hG).mono ?_
 rintro e w1 ⟨rfl, hd⟩
 refine ⟨_, rfl, ?_⟩
 have B2 := (Drawn0.below hd)
 have S3 := S0.call B2
 replace HR := vb HR B2
 replace HL := vb HL B2
 refine qv (v := .int .i64 0) (r_assign rfl) ?_
 refine q_nil ?_
 refine x_seq ?_
 refine s_seq ?_
 refine s_region ?_
 refine qv (v := .int .i64 0) (r_move rfl) ?_
 refine qv (v := .bool false) (r_neq rfl rfl (bne_f (by omega))) ?_
 refine q_nil ?_
 refine x_seq ?_
 refine s_false rfl ?_
 refine s_skip ?_
 refine x_seq ?_
 refine s_seq ?_
 refine s_region ?_
 refine qv (v := .slice (some ad) ((ls ss).length) c) (r_move rfl) ?_
 refine qv (v := .int .i64 fd) (r_move rfl) ?_
 refine qv (v := .pointer (some (ad.add (fd.toNat * 5)))) (r_indexA elm_47 rfl rfl (by omega) (by omega) rfl) ?_
 refine qv (v := .agg #[.int .i64 s.f0, .int .u32 s.f1, .bool s.f2.f0, .slice A3 s.f2.f1.length c3, .int .i64 s.f3]) (r_loadNA sz_28 rfl rfl (cells_raw (vs := [.int .i64 s.f0, .int .u32 s.f1, .bool s.f2.f0, .slice A3 s.f2.f1.length c3, .int .i64 s.f3]) rfl hob (S3.blk 0 rfl) hcell)) ?_
 refine qo ?_
 refine e_alloc S3 zro_28 ?_
 intro g4 w5 hg4 S6 B7
 replace HR := vb HR B7
 replace HL := vb HL B7
 refine qo ?_
 refine e_store (vs := [.int .i64 s.f0, .int .u32 s.f1, .bool s.f2.f0, .slice A3 s.f2.f1.length c3, .int .i64 s.f3]) (cs' := [.int .i64 s.f0, .int .u32 s.f1, .bool s.f2.f0, .slice A3 s.f2.f1.length c3, .int .i64 s.f3]) S6 rfl rfl rfl rfl sz_28 0 rfl (.inl rfl) rfl rfl rfl ?_
 intro w8 S9 E10
 replace HR := Aside0.mk (Kd.V_step HR.out (fun k_ hk_ hl_ => E10.block k_ hl_ (fun e_ => by have o_ := S6.own _ (List.mem_of_getElem? (i := 0) rfl) rfl; try dsimp only at o_ e_; have b_ := hPN k_ hk_; omega)))
 replace HL := Aside0.mk (Kd.V_step HL.out (fun k_ hk_ hl_ => E10.block k_ hl_ (fun e_ => by have o_ := S6.own _ (List.mem_of_getElem? (i := 0) rfl) rfl; try dsimp only at o_ e_; have b_ := hPN k_ hk_; omega)))
 refine q_nil ?_
 refine x_seq ?_
 refine s_seq ?_
 refine s_region ?_
 refine qv (v := .pointer (some ⟨g4, 4, none⟩)) (r_field fld_28_3 rfl rfl) ?_
 refine qv (v := .int .i64 s.f3) (r_load1 sz_3 rfl (S9.cell 0 rfl rfl)) ?_
 refine qv (v := .int .i64 m) (r_move rfl) ?_
 refine qo ?_
 refine e_call (args := [.int .i64 s.f3, .int .i64 m]) Try.func31 (by kernel_rfl) rfl rfl ?_
 refine (purlieuref02_Mask.calls 400 s.f3 m r1 0 _ hM).mono ?_
 rintro e w11 ⟨rfl, hd⟩
 refine ⟨_, rfl, ?_⟩
 have B12 := (Drawn0.below hd)
 have S13 := S9.call B12
 replace HR := vb HR B12
 replace HL := vb HL B12
 refine qv (v := .tuple #[.int .i64 r1, .int .i64 0]) (r_move rfl) ?_
 refine qv (v := .int .i64 r1) (r_extract rfl rfl) ?_
 refine qv (v := .int .i64 0) (r_extract rfl rfl) ?_
 refine qv (v := .int .i64 r1) (r_assign rfl) ?_
 refine qv (v := .int .i64 0) (r_assign rfl) ?_
 refine q_nil ?_
 refine x_seq ?_
 refine s_seq ?_
 refine s_seq ?_
 refine s_region ?_
 refine qv (v := .int .i64 0) (r_move rfl) ?_
 refine qv (v := .bool false) (r_neq rfl rfl (bne_f (by omega))) ?_
 refine q_nil ?_
 refine x_seq ?_
 refine s_false rfl ?_
 refine s_skip ?_
 refine x_seq ?_
 refine s_seq ?_
 refine s_region ?_
 refine qv (v := .int .i64 r1) (r_move rfl) ?_
 refine qv (v := .pointer (some ⟨g4, 4, none⟩)) (r_field fld_28_3 rfl rfl) ?_
 refine qo ?_
 refine e_store (vs := [.int .i64 r1]) (cs' := [.int .i64 s.f0, .int .u32 s.f1, .bool s.f2.f0, .slice A3 s.f2.f1.length c3, .int .i64 r1]) S13 rfl rfl rfl rfl sz_3 0 rfl (.inl rfl) rfl rfl rfl ?_
 intro w14 S15 E16
 replace HR := Aside0.mk (Kd.V_step HR.out (fun k_ hk_ hl_ => E16.block k_ hl_ (fun e_ => by have o_ := S13.own _ (List.mem_of_getElem? (i := 0) rfl) rfl; try dsimp only at o_ e_; have b_ := hPN k_ hk_; omega)))
 replace HL := Aside0.mk (Kd.V_step HL.out (fun k_ hk_ hl_ => E16.block k_ hl_ (fun e_ => by have o_ := S13.own _ (List.mem_of_getElem? (i := 0) rfl) rfl; try dsimp only at o_ e_; have b_ := hPN k_ hk_; omega)))
 refine q_nil ?_
 refine x_seq ?_
 refine s_seq ?_
 refine s_region ?_
 refine qv (v := .slice (some ad) ((ls ss).length) c) (r_move rfl) ?_
 refine qv (v := .int .i64 fd) (r_move rfl) ?_
 refine qv (v := .agg #[.int .i64 s.f0, .int .u32 s.f1, .bool s.f2.f0, .slice A3 s.f2.f1.length c3, .int .i64 r1]) (r_loadN (vs := [.int .i64 s.f0, .int .u32 s.f1, .bool s.f2.f0, .slice A3 s.f2.f1.length c3, .int .i64 r1]) sz_28 rfl (S15.blk 0 rfl) rfl rfl) ?_
 refine qo ?_
 refine e_call (args := [.slice (some ad) ((ls ss).length) c, .int .i64 fd, .agg #[.int .i64 s.f0, .int .u32 s.f1, .bool s.f2.f0, .slice A3 s.f2.f1.length c3, .int .i64 r1]]) Try.func44 (by kernel_rfl) rfl rfl ?_
 have HBw := Aside0.mk S15.ext.size
 have hV_ := HR.out
 refine (With_ls HL.out hl fd h0 (by omega) (some (⟨s.f0, s.f1, s.f2, r1⟩ : Slot)) hV_).mono ?_
 rintro e w17 ⟨ad2, c2, rfl, hL2, hb⟩
 refine ⟨_, rfl, ?_⟩
 have B18 := hb
 have S19 := S15.call B18
 replace HR := vb HR B18
 replace HL := vb HL B18
 have HL2 := Aside0.mk hL2
 refine qv (v := .slice (some ad2) ((ls (ss.set fd.toNat (some (⟨s.f0, s.f1, s.f2, r1⟩ : Slot)))).length) c2) (r_assign rfl) ?_
 refine qv (v := .int .i64 0) (r_assign rfl) ?_
 refine q_nil ?_
 refine x_seq ?_
 refine s_ret ?_
 refine t_ret2 (v := .slice (some ad2) ((ls (ss.set fd.toNat (some (⟨s.f0, s.f1, s.f2, r1⟩ : Slot)))).length) c2) (v' := .int .i64 0) rfl rfl rfl ?_
 exact ⟨ad2, c2, rfl, Kd.V_mono HL2.out (fun k_ hk_ => by have hz_ := HBw.out; rcases hk_ with (h_ | h_) | h_ <;> first | exact .inl h_ | (right; omega)), S19.ext.below⟩
set_option maxHeartbeats 8000000 in
set_option maxRecDepth 100000 in
theorem RIo_no {w : World} {P : Nat → Prop} {ad : Addr} {c : Nat} {ss : List (Option Slot)} (hL : LV w P ad c (ls ss)) (hPN : ∀ k, P k → k < w.heap.size) (fd : Int) {B : Option Addr} {d : Nat} {l2 : List Int} (hB : Kd.C (Kd.int .i64) w B l2.length l2) (hd2 : l2.length ≤ d) (e : Int) (hG : purlieuref13_Get.f 40 (ls ss) fd 0 = some e) (he : e ≠ 0) : Calls Try.prog 46 #[.slice (some ad) ((ls ss).length) c, .int .i64 fd, .slice B l2.length d] w fun e' w' => e' = .returned (.tuple #[.slice (some ad) ((ls ss).length) c, .int .i64 e]) ∧ Below w.heap.size w w' := by
 have HL := Aside0.mk hL
 refine s_enter (n := 40) (L := [(0, .slice (some ad) ((ls ss).length) c), (1, .int .i64 fd), (2, .slice B l2.length d)]) Try.func46 rfl rfl rfl rfl ?_
 have S1 := St.start w no
 refine s_seq ?_
 refine s_region ?_
 refine qv (v := .slice none 0 0) (r_assign rfl) ?_
 refine qv (v := .int .i64 0) (r_assign rfl) ?_
 refine q_nil ?_
 refine x_seq ?_
 refine s_seq ?_
 refine s_seq ?_
 refine s_region ?_
 refine qv (v := .slice (some ad) ((ls ss).length) c) (r_move rfl) ?_
 refine qv (v := .int .i64 fd) (r_move rfl) ?_
 refine qo ?_
 refine e_call (args := [.slice (some ad) ((ls ss).length) c, .int .i64 fd, .int .u32 0]) Try.func20 (by kernel_rfl) rfl rfl ?_
 refine (purlieuref13_Get.calls 40 (some ad) c (ls ss) fd 0 e _ (LV_C HL.out).1 (LV_C HL.out).2 hG).mono ?_
 rintro e w2 ⟨rfl, hd⟩
 refine ⟨_, rfl, ?_⟩
 have B3 := (Drawn0.below hd)
 have S4 := S1.call B3
 replace HL := vb HL B3
 refine qv (v := .int .i64 e) (r_assign rfl) ?_
 refine q_nil ?_
 refine x_seq ?_
 refine s_seq ?_
 refine s_region ?_
 refine qv (v := .int .i64 e) (r_move rfl) ?_
 refine qv (v := .bool true) (r_neq rfl rfl (bne_t (he))) ?_
 refine q_nil ?_
 refine x_seq ?_
 refine s_true rfl ?_
 refine s_seq ?_
 refine s_region ?_
 refine qv (v := .slice (some ad) ((ls ss).length) c) (r_move rfl) ?_
 refine qv (v := .int .i64 e) (r_move rfl) ?_
 refine qv (v := .slice (some ad) ((ls ss).length) c) (r_assign rfl) ?_
 refine qv (v := .int .i64 e) (r_assign rfl) ?_
 refine q_nil ?_
 refine x_seq ?_
 refine s_ret ?_
 refine x_seq_ret ?_
 refine t_ret2 (v := .slice (some ad) ((ls ss).length) c) (v' := .int .i64 e) rfl rfl rfl ?_
 exact ⟨rfl, S4.ext.below⟩
set_option maxHeartbeats 8000000 in
set_option maxRecDepth 100000 in
theorem RIo_bad {w : World} {P : Nat → Prop} {ad : Addr} {c : Nat} {ss : List (Option Slot)} (hL : LV w P ad c (ls ss)) (hPN : ∀ k, P k → k < w.heap.size) (fd : Int) (hl : ss.length ≤ 64) (h0 : 0 ≤ fd) {s : Slot} (hs : ss[fd.toNat]? = some (some s)) {B : Option Addr} {d : Nat} {l2 : List Int} (hB : Kd.C (Kd.int .i64) w B l2.length l2) (hd2 : l2.length ≤ d) (r1 : Bool) (r2 : List Int) (r3 : Int) (hG : purlieuref13_Get.f 40 (ls ss) fd 0 = some 0) (hM : purlieuref02_Limit.f 600 s.f2.f0 s.f2.f1 l2 = some (r1, r2, r3)) (he : r3 ≠ 0) : Calls Try.prog 46 #[.slice (some ad) ((ls ss).length) c, .int .i64 fd, .slice B l2.length d] w fun e' w' => e' = .returned (.tuple #[.slice (some ad) ((ls ss).length) c, .int .i64 r3]) ∧ Below w.heap.size w w' := by
 have hlt := get_lt hs
 have hll := ls_len ss
 obtain ⟨ob, hob⟩ := LV_ob hL (by omega)
 obtain ⟨A3, c3, hcell, h3, hF⟩ := LV_at hL h0 hs
 have HR := Aside0.mk (show Kd.V (Kd.int .i64) 3 w 0 P (.slice A3 s.f2.f1.length c3) s.f2.f1 from Kd.V_mk h3 hF)
 have S0 := St.add (St.start w no) hob (fun x hx => by cases hx)
 have HL := Aside0.mk hL
 have HB := Aside0.mk hB
 refine s_enter (n := 40) (L := [(0, .slice (some ad) ((ls ss).length) c), (1, .int .i64 fd), (2, .slice B l2.length d)]) Try.func46 rfl rfl rfl rfl ?_
 refine s_seq ?_
 refine s_region ?_
 refine qv (v := .slice none 0 0) (r_assign rfl) ?_
 refine qv (v := .int .i64 0) (r_assign rfl) ?_
 refine q_nil ?_
 refine x_seq ?_
 refine s_seq ?_
 refine s_seq ?_
 refine s_region ?_
 refine qv (v := .slice (some ad) ((ls ss).length) c) (r_move rfl) ?_
 refine qv (v := .int .i64 fd) (r_move rfl) ?_
 refine qo ?_
 refine e_call (args := [.slice (some ad) ((ls ss).length) c, .int .i64 fd, .int .u32 0]) Try.func20 (by kernel_rfl) rfl rfl ?_
 refine (purlieuref13_Get.calls 40 (some ad) c (ls ss) fd 0 0 _ (LV_C HL.out).1 (LV_C HL.out).2 hG).mono ?_
 rintro e w1 ⟨rfl, hd⟩
 refine ⟨_, rfl, ?_⟩
 have B2 := (Drawn0.below hd)
 have S3 := S0.call B2
 replace HR := vb HR B2
 replace HL := vb HL B2
 refine qv (v := .int .i64 0) (r_assign rfl) ?_
 refine q_nil ?_
 refine x_seq ?_
 refine s_seq ?_
 refine s_region ?_
 refine qv (v := .int .i64 0) (r_move rfl) ?_
 refine qv (v := .bool false) (r_neq rfl rfl (bne_f (by omega))) ?_
 refine q_nil ?_
 refine x_seq ?_
 refine s_false rfl ?_
 refine s_skip ?_
 refine x_seq ?_
 refine s_seq ?_
 refine s_region ?_
 refine qv (v := .slice (some ad) ((ls ss).length) c) (r_move rfl) ?_
 refine qv (v := .int .i64 fd) (r_move rfl) ?_
 refine qv (v := .pointer (some (ad.add (fd.toNat * 5)))) (r_indexA elm_47 rfl rfl (by omega) (by omega) rfl) ?_
 refine qv (v := .agg #[.int .i64 s.f0, .int .u32 s.f1, .bool s.f2.f0, .slice A3 s.f2.f1.length c3, .int .i64 s.f3]) (r_loadNA sz_28 rfl rfl (cells_raw (vs := [.int .i64 s.f0, .int .u32 s.f1, .bool s.f2.f0, .slice A3 s.f2.f1.length c3, .int .i64 s.f3]) rfl hob (S3.blk 0 rfl) hcell)) ?_
 refine qo ?_
 refine e_alloc S3 zro_28 ?_
 intro g4 w5 hg4 S6 B7
 replace HR := vb HR B7
 replace HL := vb HL B7
 refine qo ?_
 refine e_store (vs := [.int .i64 s.f0, .int .u32 s.f1, .bool s.f2.f0, .slice A3 s.f2.f1.length c3, .int .i64 s.f3]) (cs' := [.int .i64 s.f0, .int .u32 s.f1, .bool s.f2.f0, .slice A3 s.f2.f1.length c3, .int .i64 s.f3]) S6 rfl rfl rfl rfl sz_28 0 rfl (.inl rfl) rfl rfl rfl ?_
 intro w8 S9 E10
 replace HR := Aside0.mk (Kd.V_step HR.out (fun k_ hk_ hl_ => E10.block k_ hl_ (fun e_ => by have o_ := S6.own _ (List.mem_of_getElem? (i := 0) rfl) rfl; try dsimp only at o_ e_; have b_ := hPN k_ hk_; omega)))
 replace HL := Aside0.mk (Kd.V_step HL.out (fun k_ hk_ hl_ => E10.block k_ hl_ (fun e_ => by have o_ := S6.own _ (List.mem_of_getElem? (i := 0) rfl) rfl; try dsimp only at o_ e_; have b_ := hPN k_ hk_; omega)))
 refine q_nil ?_
 refine x_seq ?_
 refine s_seq ?_
 refine s_region ?_
 refine qv (v := .pointer (some ⟨g4, 2, none⟩)) (r_field fld_28_2 rfl rfl) ?_
 refine qv (v := .agg #[.bool s.f2.f0, .slice A3 s.f2.f1.length c3]) (r_loadN (vs := [.bool s.f2.f0, .slice A3 s.f2.f1.length c3]) sz_26 rfl (S9.blk 0 rfl) rfl rfl) ?_
 refine qv (v := .slice B l2.length d) (r_move rfl) ?_
 refine qo ?_
 refine e_call (args := [.agg #[.bool s.f2.f0, .slice A3 s.f2.f1.length c3], .slice B l2.length d]) Try.func61 (by kernel_rfl) rfl rfl ?_
 refine (purlieuref02_Limit.calls 600 s.f2.f0 A3 c3 s.f2.f1 B d l2 r1 r2 r3 _ (Kd.V_reads' HR.out).2.2 (Kd.V_reads' HR.out).2.1 (Kd.C_below HB.out S9.ext.below) hd2 hM).mono ?_
 rintro e w11 ⟨v, rfl, ho, hb⟩
 obtain ⟨A4, c4, rfl⟩ := Kd.R_slice ho
 refine ⟨_, rfl, ?_⟩
 have B12 := hb
 have S13 := S9.call B12
 replace HR := vb HR B12
 replace HL := vb HL B12
 have HO := Aside0.mk ho
 clear ho
 have HBo := Aside0.mk S9.ext.size
 refine qv (v := .tuple #[.agg #[.bool r1, .slice A4 r2.length c4], .int .i64 r3]) (r_move rfl) ?_
 refine qv (v := .agg #[.bool r1, .slice A4 r2.length c4]) (r_extract rfl rfl) ?_
 refine qv (v := .int .i64 r3) (r_extract rfl rfl) ?_
 refine qo ?_
 refine e_alloc S13 zro_26 ?_
 intro g14 w15 hg14 S16 B17
 replace HO := rb HO B17
 replace HR := vb HR B17
 replace HL := vb HL B17
 refine qo ?_
 refine e_store (vs := [.bool r1, .slice A4 r2.length c4]) (cs' := [.bool r1, .slice A4 r2.length c4]) S16 rfl rfl rfl rfl sz_26 0 rfl (.inl rfl) rfl rfl rfl ?_
 intro w18 S19 E20
 replace HO := rx HO E20 (S16.blk 0 rfl)
 replace HR := Aside0.mk (Kd.V_step HR.out (fun k_ hk_ hl_ => E20.block k_ hl_ (fun e_ => by have o_ := S16.own _ (List.mem_of_getElem? (i := 0) rfl) rfl; try dsimp only at o_ e_; have b_ := hPN k_ hk_; omega)))
 replace HL := Aside0.mk (Kd.V_step HL.out (fun k_ hk_ hl_ => E20.block k_ hl_ (fun e_ => by have o_ := S16.own _ (List.mem_of_getElem? (i := 0) rfl) rfl; try dsimp only at o_ e_; have b_ := hPN k_ hk_; omega)))
 refine qv (v := .int .i64 r3) (r_assign rfl) ?_
 refine q_nil ?_
 refine x_seq ?_
 refine s_seq ?_
 refine s_seq ?_
 refine s_region ?_
 refine qv (v := .int .i64 r3) (r_move rfl) ?_
 refine qv (v := .bool true) (r_neq rfl rfl (bne_t (he))) ?_
 refine q_nil ?_
 refine x_seq ?_
 refine s_true rfl ?_
 refine s_seq ?_
 refine s_region ?_
 refine qv (v := .slice (some ad) ((ls ss).length) c) (r_move rfl) ?_
 refine qv (v := .int .i64 r3) (r_move rfl) ?_
 refine qv (v := .slice (some ad) ((ls ss).length) c) (r_assign rfl) ?_
 refine qv (v := .int .i64 r3) (r_assign rfl) ?_
 refine q_nil ?_
 refine x_seq ?_
 refine s_ret ?_
 refine x_seq_ret ?_
 refine t_ret2 (v := .slice (some ad) ((ls ss).length) c) (v' := .int .i64 r3) rfl rfl rfl ?_
 exact ⟨rfl, S19.ext.below⟩
set_option maxHeartbeats 8000000 in
set_option maxRecDepth 100000 in
theorem RIo_ok {w : World} {P : Nat → Prop} {ad : Addr} {c : Nat} {ss : List (Option Slot)} (hL : LV w P ad c (ls ss)) (hPN : ∀ k, P k → k < w.heap.size) (fd : Int) (hl : ss.length ≤ 64) (h0 : 0 ≤ fd) {s : Slot} (hs : ss[fd.toNat]? = some (some s)) {B : Option Addr} {d : Nat} {l2 : List Int} (hB : Kd.C (Kd.int .i64) w B l2.length l2) (hd2 : l2.length ≤ d) (r1 : Bool) (r2 : List Int) (hG : purlieuref13_Get.f 40 (ls ss) fd 0 = some 0) (hM : purlieuref02_Limit.f 600 s.f2.f0 s.f2.f1 l2 = some (r1, r2, 0)) : Calls Try.prog 46 #[.slice (some ad) ((ls ss).length) c, .int .i64 fd, .slice B l2.length d] w fun e' w' => ∃ ad' c', e' = .returned (.tuple #[.slice (some ad') (ls (ss.set fd.toNat (some ⟨s.f0, s.f1, ⟨r1, r2⟩, s.f3⟩))).length c', .int .i64 0]) ∧ LV w' (fun k => (P k ∨ w.heap.size ≤ k)) ad' c' (ls (ss.set fd.toNat (some ⟨s.f0, s.f1, ⟨r1, r2⟩, s.f3⟩))) ∧ Below w.heap.size w w' := by
 have hlt := get_lt hs
 have hll := ls_len ss
 obtain ⟨ob, hob⟩ := LV_ob hL (by omega)
 obtain ⟨A3, c3, hcell, h3, hF⟩ := LV_at hL h0 hs
 have HR := Aside0.mk (show Kd.V (Kd.int .i64) 3 w 0 P (.slice A3 s.f2.f1.length c3) s.f2.f1 from Kd.V_mk h3 hF)
 have S0 := St.add (St.start w no) hob (fun x hx => by cases hx)
 have HL := Aside0.mk hL
 have HB := Aside0.mk hB
 refine s_enter (n := 40) (L := [(0, .slice (some ad) ((ls ss).length) c), (1, .int .i64 fd), (2, .slice B l2.length d)]) Try.func46 rfl rfl rfl rfl ?_
 refine s_seq ?_
 refine s_region ?_
 refine qv (v := .slice none 0 0) (r_assign rfl) ?_
 refine qv (v := .int .i64 0) (r_assign rfl) ?_
 refine q_nil ?_
 refine x_seq ?_
 refine s_seq ?_
 refine s_seq ?_
 refine s_region ?_
 refine qv (v := .slice (some ad) ((ls ss).length) c) (r_move rfl) ?_
 refine qv (v := .int .i64 fd) (r_move rfl) ?_
 refine qo ?_
 refine e_call (args := [.slice (some ad) ((ls ss).length) c, .int .i64 fd, .int .u32 0]) Try.func20 (by kernel_rfl) rfl rfl ?_
 refine (purlieuref13_Get.calls 40 (some ad) c (ls ss) fd 0 0 _ (LV_C HL.out).1 (LV_C HL.out).2 hG).mono ?_
 rintro e w1 ⟨rfl, hd⟩
 refine ⟨_, rfl, ?_⟩
 have B2 := (Drawn0.below hd)
 have S3 := S0.call B2
 replace HR := vb HR B2
 replace HL := vb HL B2
 refine qv (v := .int .i64 0) (r_assign rfl) ?_
 refine q_nil ?_
 refine x_seq ?_
 refine s_seq ?_
 refine s_region ?_
 refine qv (v := .int .i64 0) (r_move rfl) ?_
 refine qv (v := .bool false) (r_neq rfl rfl (bne_f (by omega))) ?_
 refine q_nil ?_
 refine x_seq ?_
 refine s_false rfl ?_
 refine s_skip ?_
 refine x_seq ?_
 refine s_seq ?_
 refine s_region ?_
 refine qv (v := .slice (some ad) ((ls ss).length) c) (r_move rfl) ?_
 refine qv (v := .int .i64 fd) (r_move rfl) ?_
 refine qv (v := .pointer (some (ad.add (fd.toNat * 5)))) (r_indexA elm_47 rfl rfl (by omega) (by omega) rfl) ?_
 refine qv (v := .agg #[.int .i64 s.f0, .int .u32 s.f1, .bool s.f2.f0, .slice A3 s.f2.f1.length c3, .int .i64 s.f3]) (r_loadNA sz_28 rfl rfl (cells_raw (vs := [.int .i64 s.f0, .int .u32 s.f1, .bool s.f2.f0, .slice A3 s.f2.f1.length c3, .int .i64 s.f3]) rfl hob (S3.blk 0 rfl) hcell)) ?_
 refine qo ?_
 refine e_alloc S3 zro_28 ?_
 intro g4 w5 hg4 S6 B7
 replace HR := vb HR B7
 replace HL := vb HL B7
 refine qo ?_
 refine e_store (vs := [.int .i64 s.f0, .int .u32 s.f1, .bool s.f2.f0, .slice A3 s.f2.f1.length c3, .int .i64 s.f3]) (cs' := [.int .i64 s.f0, .int .u32 s.f1, .bool s.f2.f0, .slice A3 s.f2.f1.length c3, .int .i64 s.f3]) S6 rfl rfl rfl rfl sz_28 0 rfl (.inl rfl) rfl rfl rfl ?_
 intro w8 S9 E10
 replace HR := Aside0.mk (Kd.V_step HR.out (fun k_ hk_ hl_ => E10.block k_ hl_ (fun e_ => by have o_ := S6.own _ (List.mem_of_getElem? (i := 0) rfl) rfl; try dsimp only at o_ e_; have b_ := hPN k_ hk_; omega)))
 replace HL := Aside0.mk (Kd.V_step HL.out (fun k_ hk_ hl_ => E10.block k_ hl_ (fun e_ => by have o_ := S6.own _ (List.mem_of_getElem? (i := 0) rfl) rfl; try dsimp only at o_ e_; have b_ := hPN k_ hk_; omega)))
 refine q_nil ?_
 refine x_seq ?_
 refine s_seq ?_
 refine s_region ?_
 refine qv (v := .pointer (some ⟨g4, 2, none⟩)) (r_field fld_28_2 rfl rfl) ?_
 refine qv (v := .agg #[.bool s.f2.f0, .slice A3 s.f2.f1.length c3]) (r_loadN (vs := [.bool s.f2.f0, .slice A3 s.f2.f1.length c3]) sz_26 rfl (S9.blk 0 rfl) rfl rfl) ?_
 refine qv (v := .slice B l2.length d) (r_move rfl) ?_
 refine qo ?_
 refine e_call (args := [.agg #[.bool s.f2.f0, .slice A3 s.f2.f1.length c3], .slice B l2.length d]) Try.func61 (by kernel_rfl) rfl rfl ?_
 refine (purlieuref02_Limit.calls 600 s.f2.f0 A3 c3 s.f2.f1 B d l2 r1 r2 0 _ (Kd.V_reads' HR.out).2.2 (Kd.V_reads' HR.out).2.1 (Kd.C_below HB.out S9.ext.below) hd2 hM).mono ?_
 rintro e w11 ⟨v, rfl, ho, hb⟩
 obtain ⟨A4, c4, rfl⟩ := Kd.R_slice ho
 refine ⟨_, rfl, ?_⟩
 have B12 := hb
 have S13 := S9.call B12
 replace HR := vb HR B12
 replace HL := vb HL B12
 have HO := Aside0.mk ho
 clear ho
 have HBo := Aside0.mk S9.ext.size
 refine qv (v := .tuple #[.agg #[.bool r1, .slice A4 r2.length c4], .int .i64 0]) (r_move rfl) ?_
 refine qv (v := .agg #[.bool r1, .slice A4 r2.length c4]) (r_extract rfl rfl) ?_
 refine qv (v := .int .i64 0) (r_extract rfl rfl) ?_
 refine qo ?_
 refine e_alloc S13 zro_26 ?_
 intro g14 w15 hg14 S16 B17
 replace HO := rb HO B17
 replace HR := vb HR B17
 replace HL := vb HL B17
 refine qo ?_
 refine e_store (vs := [.bool r1, .slice A4 r2.length c4]) (cs' := [.bool r1, .slice A4 r2.length c4]) S16 rfl rfl rfl rfl sz_26 0 rfl (.inl rfl) rfl rfl rfl ?_
 intro w18 S19 E20
 replace HO := rx HO E20 (S16.blk 0 rfl)
 replace HR := Aside0.mk (Kd.V_step HR.out (fun k_ hk_ hl_ => E20.block k_ hl_ (fun e_ => by have o_ := S16.own _ (List.mem_of_getElem? (i := 0) rfl) rfl; try dsimp only at o_ e_; have b_ := hPN k_ hk_; omega)))
 replace HL := Aside0.mk (Kd.V_step HL.out (fun k_ hk_ hl_ => E20.block k_ hl_ (fun e_ => by have o_ := S16.own _ (List.mem_of_getElem? (i := 0) rfl) rfl; try dsimp only at o_ e_; have b_ := hPN k_ hk_; omega)))
 refine qv (v := .int .i64 0) (r_assign rfl) ?_
 refine q_nil ?_
 refine x_seq ?_
 refine s_seq ?_
 refine s_seq ?_
 refine s_region ?_
 refine qv (v := .int .i64 0) (r_move rfl) ?_
 refine qv (v := .bool false) (r_neq rfl rfl (bne_f (by omega))) ?_
 refine q_nil ?_
 refine x_seq ?_
 refine s_false rfl ?_
 refine s_skip ?_
 refine x_seq ?_
 refine s_seq ?_
 refine s_region ?_
 refine qv (v := .agg #[.bool r1, .slice A4 r2.length c4]) (r_loadN (vs := [.bool r1, .slice A4 r2.length c4]) sz_26 rfl (S19.blk 0 rfl) rfl rfl) ?_
 refine qv (v := .pointer (some ⟨g4, 2, none⟩)) (r_field fld_28_2 rfl rfl) ?_
 refine qo ?_
 refine e_store (vs := [.bool r1, .slice A4 r2.length c4]) (cs' := [.int .i64 s.f0, .int .u32 s.f1, .bool r1, .slice A4 r2.length c4, .int .i64 s.f3]) S19 rfl rfl rfl rfl sz_26 1 rfl (.inl rfl) rfl rfl rfl ?_
 intro w21 S22 E23
 replace HO := rx HO E23 (S19.blk 1 rfl)
 replace HR := Aside0.mk (Kd.V_step HR.out (fun k_ hk_ hl_ => E23.block k_ hl_ (fun e_ => by have o_ := S19.own _ (List.mem_of_getElem? (i := 1) rfl) rfl; try dsimp only at o_ e_; have b_ := hPN k_ hk_; omega)))
 replace HL := Aside0.mk (Kd.V_step HL.out (fun k_ hk_ hl_ => E23.block k_ hl_ (fun e_ => by have o_ := S19.own _ (List.mem_of_getElem? (i := 1) rfl) rfl; try dsimp only at o_ e_; have b_ := hPN k_ hk_; omega)))
 refine q_nil ?_
 refine x_seq ?_
 refine s_seq ?_
 refine s_region ?_
 refine qv (v := .slice (some ad) ((ls ss).length) c) (r_move rfl) ?_
 refine qv (v := .int .i64 fd) (r_move rfl) ?_
 refine qv (v := .agg #[.int .i64 s.f0, .int .u32 s.f1, .bool r1, .slice A4 r2.length c4, .int .i64 s.f3]) (r_loadN (vs := [.int .i64 s.f0, .int .u32 s.f1, .bool r1, .slice A4 r2.length c4, .int .i64 s.f3]) sz_28 rfl (S22.blk 1 rfl) rfl rfl) ?_
 refine qo ?_
 refine e_call (args := [.slice (some ad) ((ls ss).length) c, .int .i64 fd, .agg #[.int .i64 s.f0, .int .u32 s.f1, .bool r1, .slice A4 r2.length c4, .int .i64 s.f3]]) Try.func44 (by kernel_rfl) rfl rfl ?_
 have HBw := Aside0.mk S22.ext.size
 have hV_ := Kd.R_V (base' := 0) (Kd.R_bound HO.out)
 refine (With_ls HL.out hl fd h0 (by omega) (some (⟨s.f0, s.f1, ⟨r1, r2⟩, s.f3⟩ : Slot)) hV_).mono ?_
 rintro e w24 ⟨ad2, c2, rfl, hL2, hb⟩
 refine ⟨_, rfl, ?_⟩
 have B25 := hb
 have S26 := S22.call B25
 replace HO := rb HO B25
 replace HR := vb HR B25
 replace HL := vb HL B25
 have HL2 := Aside0.mk hL2
 refine qv (v := .slice (some ad2) ((ls (ss.set fd.toNat (some (⟨s.f0, s.f1, ⟨r1, r2⟩, s.f3⟩ : Slot)))).length) c2) (r_assign rfl) ?_
 refine qv (v := .int .i64 0) (r_assign rfl) ?_
 refine q_nil ?_
 refine x_seq ?_
 refine s_ret ?_
 refine t_ret2 (v := .slice (some ad2) ((ls (ss.set fd.toNat (some (⟨s.f0, s.f1, ⟨r1, r2⟩, s.f3⟩ : Slot)))).length) c2) (v' := .int .i64 0) rfl rfl rfl ?_
 exact ⟨ad2, c2, rfl, Kd.V_mono HL2.out (fun k_ hk_ => by have hz_ := HBw.out; have hy_ := HBo.out; rcases hk_ with (h_ | ⟨_, h_, _⟩) | h_ <;> first | exact .inl h_ | (right; omega)), S26.ext.below⟩
end Go.Proofs.Ytilfalpfanaanaa.PA

namespace Go.Proofs.Ytilfalpfanaanaa.PA
open Go.RowKit Go.Proofs.YtilfalpfanaanaaW.PrintWords Go.Proofs.YtilfalpfanaanaaW.PrintLast Go.Proofs.YtilfalpfanaanaaW.PrintMore Go.Proofs.Ytilfalpfanaanaa.Sx
set_option maxHeartbeats 8000000 in
set_option maxRecDepth 100000 in
theorem own_calls (kd fd s0 s1 : Int) (b0 : Bool) (A5 : Option Addr) (c5 : Nat) (l5 : List Int) (s3 : Int) (A7 : Option Addr) (c7 : Nat) (l7 : List Int) (w : World) (hr5 : Kd.C (Kd.int .i64) w A5 l5.length l5) (hc5 : l5.length ≤ c5) (hr7 : Kd.C (Kd.int .i64) w A7 l7.length l7) (hc7 : l7.length ≤ c7) :
  Calls Try.prog 13 #[.agg #[.int .i64 kd, .int .i64 fd, .int .i64 s0, .int .u32 s1, .bool b0, .slice A5 l5.length c5, .int .i64 s3, .slice A7 l7.length c7]] w fun e w' => ∃ v5 v7, e = .returned (.agg #[.int .i64 kd, .int .i64 fd, .int .i64 s0, .int .u32 s1, .bool b0, v5, .int .i64 s3, v7]) ∧ Kd.R (Kd.int .i64) 3 w' w.heap.size (fun _ => True) v5 (cut50 l5) ∧ Kd.R (Kd.int .i64) 3 w' w.heap.size (fun _ => True) v7 (cut50 l7) ∧ Below w.heap.size w w' := by
 have HC5 := Aside0.mk hr5
 have HC7 := Aside0.mk hr7
 clear hr5 hr7
 refine s_enter (n := 37) (L := [(0, .agg #[.int .i64 kd, .int .i64 fd, .int .i64 s0, .int .u32 s1, .bool b0, .slice A5 l5.length c5, .int .i64 s3, .slice A7 l7.length c7])]) Try.func13 rfl rfl rfl rfl ?_
 have S1 := St.start w no
 refine s_seq ?_
 refine s_region ?_
 refine qo ?_
 refine e_box (cs := [.int .i64 kd, .int .i64 fd, .int .i64 s0, .int .u32 s1, .bool b0, .slice A5 l5.length c5, .int .i64 s3, .slice A7 l7.length c7]) S1 rfl rfl ?_
 intro g2 w3 hg2 S4 B5
 refine qo ?_
 refine e_alloc S4 zro_30 ?_
 intro g6 w7 hg6 S8 B9
 refine q_nil ?_
 refine x_seq ?_
 refine s_seq ?_
 refine s_cut .normal (fun L_ W_ => ∃ (U : List (Nat × Value)) (m7 : List Int), L_ = (1, .pointer (some ⟨g2, 0, none⟩)) :: (2, .pointer (some ⟨g6, 0, none⟩)) :: U ∧ St w no W_ [⟨g6, true, .cells #[.int .i64 0, .int .i64 0, .int .i64 0, .int .u32 0, .bool false, .slice none 0 0, .int .i64 0, .slice none 0 0] 30 (0, 0)⟩, ⟨g2, true, .cells #[.int .i64 kd, .int .i64 fd, .int .i64 s0, .int .u32 s1, .bool b0, .slice A5 l5.length c5, .int .i64 s3, .slice A7 m7.length c7] 30 (0, 0)⟩] ∧ m7 = cut50 l7 ∧ Kd.C (Kd.int .i64) w A7 m7.length m7 ∧ m7.length ≤ c7 ∧ m7.length ≤ 50) ?_ ?_
 ·skip
  refine s_seq ?_
  refine s_region ?_
  refine qv (v := .pointer (some ⟨g2, 7, none⟩)) (r_field fld_30_3 rfl rfl) ?_
  refine qv (v := .slice A7 l7.length c7) (r_load1 sz_24 rfl (S8.cell 1 rfl rfl)) ?_
  refine qv (v := .int .i64 ((l7.length : Nat) : Int)) (r_len_slice elm_24 rfl) ?_
  by_cases h7 : ((((l7.length : Nat) : Int) : Int) > 50)
  ·skip
   refine qv (v := .bool true) (r_gtr rfl rfl (decide_eq_true (h7))) ?_
   refine q_nil ?_
   refine x_seq ?_
   refine s_true rfl ?_
   refine s_region ?_
   refine qv (v := .pointer (some ⟨g2, 7, none⟩)) (r_field fld_30_3 rfl rfl) ?_
   refine qv (v := .slice A7 l7.length c7) (r_load1 sz_24 rfl (S8.cell 1 rfl rfl)) ?_
   refine qv (v := .slice A7 50 c7) (r_slice_h (q := 50) elm_24 rfl rfl (by omega) (by omega)) ?_
   refine qv (v := .pointer (some ⟨g2, 7, none⟩)) (r_field fld_30_3 rfl rfl) ?_
   refine qo ?_
   refine e_store (vs := [.slice A7 50 c7]) (cs' := [.int .i64 kd, .int .i64 fd, .int .i64 s0, .int .u32 s1, .bool b0, .slice A5 l5.length c5, .int .i64 s3, .slice A7 50 c7]) S8 rfl rfl rfl rfl sz_24 1 rfl (.inl rfl) rfl rfl rfl ?_
   intro w10 S11 E12
   refine q_nil ?_
   exact x_cut [(1, .pointer (some ⟨g2, 0, none⟩)), (2, .pointer (some ⟨g6, 0, none⟩))] ⟨rfl, rfl, trivial⟩ ⟨_, (l7.take 50), rfl, (by rw [show (l7.take 50).length = 50 from by rw [List.length_take]; omega]; exact S11), (by unfold cut50; rw [if_pos (by omega)]), (C_take HC7.out 50), (by rw [List.length_take]; omega), (by rw [List.length_take]; omega)⟩
  ·skip
   refine qv (v := .bool false) (r_gtr rfl rfl (decide_eq_false (h7))) ?_
   refine q_nil ?_
   refine x_seq ?_
   refine s_false rfl ?_
   refine s_skip ?_
   exact x_cut [(1, .pointer (some ⟨g2, 0, none⟩)), (2, .pointer (some ⟨g6, 0, none⟩))] ⟨rfl, rfl, trivial⟩ ⟨_, l7, rfl, S8, (by unfold cut50; rw [if_neg (by omega)]), HC7.out, (by omega), (by omega)⟩
 rintro L13 w14 ⟨U, m7, rfl, S15, hm7, hM7, hk7, hl7⟩
 refine x_seq ?_
 refine s_seq ?_
 refine s_cut .normal (fun L_ W_ => ∃ (U : List (Nat × Value)) (m5 : List Int), L_ = (1, .pointer (some ⟨g2, 0, none⟩)) :: (2, .pointer (some ⟨g6, 0, none⟩)) :: U ∧ St w no W_ [⟨g6, true, .cells #[.int .i64 0, .int .i64 0, .int .i64 0, .int .u32 0, .bool false, .slice none 0 0, .int .i64 0, .slice none 0 0] 30 (0, 0)⟩, ⟨g2, true, .cells #[.int .i64 kd, .int .i64 fd, .int .i64 s0, .int .u32 s1, .bool b0, .slice A5 m5.length c5, .int .i64 s3, .slice A7 m7.length c7] 30 (0, 0)⟩] ∧ m5 = cut50 l5 ∧ Kd.C (Kd.int .i64) w A5 m5.length m5 ∧ m5.length ≤ c5 ∧ m5.length ≤ 50) ?_ ?_
 ·skip
  refine s_seq ?_
  refine s_region ?_
  refine qv (v := .pointer (some ⟨g2, 2, none⟩)) (r_field fld_30_2 rfl rfl) ?_
  refine qv (v := .pointer (some ⟨g2, 4, none⟩)) (r_field fld_28_2 rfl rfl) ?_
  refine qv (v := .pointer (some ⟨g2, 5, none⟩)) (r_field fld_26_1 rfl rfl) ?_
  refine qv (v := .slice A5 l5.length c5) (r_load1 sz_24 rfl (S15.cell 1 rfl rfl)) ?_
  refine qv (v := .int .i64 ((l5.length : Nat) : Int)) (r_len_slice elm_24 rfl) ?_
  by_cases h5 : ((((l5.length : Nat) : Int) : Int) > 50)
  ·skip
   refine qv (v := .bool true) (r_gtr rfl rfl (decide_eq_true (h5))) ?_
   refine q_nil ?_
   refine x_seq ?_
   refine s_true rfl ?_
   refine s_region ?_
   refine qv (v := .pointer (some ⟨g2, 2, none⟩)) (r_field fld_30_2 rfl rfl) ?_
   refine qv (v := .pointer (some ⟨g2, 4, none⟩)) (r_field fld_28_2 rfl rfl) ?_
   refine qv (v := .pointer (some ⟨g2, 5, none⟩)) (r_field fld_26_1 rfl rfl) ?_
   refine qv (v := .slice A5 l5.length c5) (r_load1 sz_24 rfl (S15.cell 1 rfl rfl)) ?_
   refine qv (v := .slice A5 50 c5) (r_slice_h (q := 50) elm_24 rfl rfl (by omega) (by omega)) ?_
   refine qv (v := .pointer (some ⟨g2, 2, none⟩)) (r_field fld_30_2 rfl rfl) ?_
   refine qv (v := .pointer (some ⟨g2, 4, none⟩)) (r_field fld_28_2 rfl rfl) ?_
   refine qv (v := .pointer (some ⟨g2, 5, none⟩)) (r_field fld_26_1 rfl rfl) ?_
   refine qo ?_
   refine e_store (vs := [.slice A5 50 c5]) (cs' := [.int .i64 kd, .int .i64 fd, .int .i64 s0, .int .u32 s1, .bool b0, .slice A5 50 c5, .int .i64 s3, .slice A7 m7.length c7]) S15 rfl rfl rfl rfl sz_24 1 rfl (.inl rfl) rfl rfl rfl ?_
   intro w16 S17 E18
   refine q_nil ?_
   exact x_cut [(1, .pointer (some ⟨g2, 0, none⟩)), (2, .pointer (some ⟨g6, 0, none⟩))] ⟨rfl, rfl, trivial⟩ ⟨_, (l5.take 50), rfl, (by rw [show (l5.take 50).length = 50 from by rw [List.length_take]; omega]; exact S17), (by unfold cut50; rw [if_pos (by omega)]), (C_take HC5.out 50), (by rw [List.length_take]; omega), (by rw [List.length_take]; omega)⟩
  ·skip
   refine qv (v := .bool false) (r_gtr rfl rfl (decide_eq_false (h5))) ?_
   refine q_nil ?_
   refine x_seq ?_
   refine s_false rfl ?_
   refine s_skip ?_
   exact x_cut [(1, .pointer (some ⟨g2, 0, none⟩)), (2, .pointer (some ⟨g6, 0, none⟩))] ⟨rfl, rfl, trivial⟩ ⟨_, l5, rfl, S15, (by unfold cut50; rw [if_neg (by omega)]), HC5.out, (by omega), (by omega)⟩
 rintro L19 w20 ⟨U, m5, rfl, S21, hm5, hM5, hk5, hl5⟩
 refine x_seq ?_
 refine s_seq ?_
 refine d_start mix (fun _ => True) ?_
 have S22 := S21.draw
 generalize w20.drew = w23 at S22  ⊢
 refine dt 13 2 (v := .pointer (some ⟨g2, 7, none⟩)) 1 rfl rfl (wn rfl) (fun W hW => r_field fld_30_3 rfl rfl) trivial ?_
 refine dt 13 18 (v := .pointer (some ⟨g2, 2, none⟩)) 4 rfl rfl (wn rfl) (fun W hW => r_field fld_30_2 rfl rfl) trivial ?_
 refine dt 13 50 (v := .pointer (some ⟨g2, 4, none⟩)) 5 rfl rfl (wn rfl) (fun W hW => r_field fld_28_2 rfl rfl) trivial ?_
 refine d_three (la := lb 13 51) (lb := lb 13 54) (lc := lb 13 114) 0 2 6 rfl rfl rfl (by kernel_rfl) (wn rfl) (wn rfl) (wn rfl) (by kernel_rfl) (by kernel_rfl) (by kernel_rfl) ?_ ?_ ?_
 ·skip
  refine e_new (vf := fun g => .slice (some ⟨g, 0, none⟩) 0 0) (ob := .cells #[] 3) rfl S22 (r_buildSlice (ps := []) rfl (by kernel_rfl)) ?_
  intro g24 w25 hg24 S26 B27
  refine ⟨trivial, ?_⟩
  refine d_two (listed' := lb 13 55) (listed'' := lb 13 115) 2 6 rfl rfl (by kernel_rfl) (wn rfl) (wn rfl) (by kernel_rfl) (by kernel_rfl) ?_ ?_
  ·skip
   refine e_val (v := .slice A7 m7.length c7) rfl (r_load1 sz_24 rfl (S26.cell 2 rfl rfl)) ?_
   refine ⟨trivial, ?_⟩
   refine d_two (listed' := lb 13 63) (listed'' := lb 13 119) 3 6 rfl rfl (by kernel_rfl) (wn rfl) (wn rfl) (by kernel_rfl) (by kernel_rfl) ?_ ?_
   ·skip
    obtain ⟨v28, w28, hr28, HRa28, E28⟩ := append_row (c := c7) 24 (empty_row (base := w.heap.size) (S26.blk 0 rfl) (S26.own _ (List.mem_of_getElem? (i := 0) rfl) rfl)) (Kd.C_below hM7 S26.ext.below) (by first | (simp; done) | (simp; omega)) (S26.ext.size)
    rw [List.nil_append] at HRa28
    obtain ⟨Aa, ca, rfl⟩ := Kd.R_slice HRa28
    refine e_val (v := .slice Aa m7.length ca) rfl (r_append rfl rfl hr28) ?_
    obtain ⟨S28, F28⟩ := St_app S26 E28
    have HRa := Aside0.mk HRa28
    refine ⟨trivial, ?_⟩
    refine d1 13 127 6 rfl (wn rfl) ?_
    refine e_val (v := .agg #[.bool b0, .slice A5 m5.length c5]) rfl (r_loadN (vs := [.bool b0, .slice A5 m5.length c5]) sz_26 rfl (S28.blk 1 rfl) rfl rfl) ?_
    refine ⟨trivial, ?_⟩
    refine dt 13 383 (v := .pointer (some ⟨g2, 7, none⟩)) 8 rfl rfl (wn rfl) (fun W hW => r_field fld_30_3 rfl rfl) trivial ?_
    refine d1 13 511 7 rfl (wn rfl) ?_
    refine e_call (args := [.agg #[.bool b0, .slice A5 m5.length c5]]) Try.func38 (by kernel_rfl) rfl rfl ?_
    have hC5 := Kd.C_below hM5 S28.ext.below
    refine (Own_at b0 A5 c5 m5 m5.length rfl _ hC5 (by omega) (by omega)).mono ?_
    rintro e w29 ⟨v, rfl, ho, hb⟩
    obtain ⟨Ab, cb, rfl⟩ := Kd.R_slice ho
    refine ⟨_, rfl, ?_⟩
    have B30 := hb
    have S31 := S28.call B30
    replace HRa := rb HRa B30
    have HRb := Aside0.mk ho
    clear ho
    have HBo := S28.ext.size
    refine ⟨trivial, ?_⟩
    refine d1 13 1023 9 rfl (wn rfl) ?_
    refine e_store (vs := [.slice Aa m7.length ca]) (cs' := [.int .i64 kd, .int .i64 fd, .int .i64 s0, .int .u32 s1, .bool b0, .slice A5 m5.length c5, .int .i64 s3, .slice Aa m7.length ca]) S31 rfl rfl rfl rfl sz_24 1 rfl (.inl rfl) rfl rfl rfl ?_
    intro w32 S33 E34
    replace HRa := rx HRa E34 (S31.blk 1 rfl)
    replace HRb := rx HRb E34 (S31.blk 1 rfl)
    refine ⟨trivial, ?_⟩
    refine dt 13 2047 (v := .pointer (some ⟨g2, 2, none⟩)) 10 rfl rfl (wn rfl) (fun W hW => r_field fld_30_2 rfl rfl) trivial ?_
    refine dt 13 4095 (v := .pointer (some ⟨g2, 4, none⟩)) 11 rfl rfl (wn rfl) (fun W hW => r_field fld_28_2 rfl rfl) trivial ?_
    refine d1 13 8191 12 rfl (wn rfl) ?_
    refine e_store (vs := [.bool b0, .slice Ab m5.length cb]) (cs' := [.int .i64 kd, .int .i64 fd, .int .i64 s0, .int .u32 s1, .bool b0, .slice Ab m5.length cb, .int .i64 s3, .slice Aa m7.length ca]) S33 rfl rfl rfl rfl sz_26 1 rfl (.inl rfl) rfl rfl rfl ?_
    intro w35 S36 E37
    replace HRa := rx HRa E37 (S33.blk 1 rfl)
    replace HRb := rx HRb E37 (S33.blk 1 rfl)
    refine ⟨trivial, ?_⟩
    refine d_done (by kernel_rfl) ?_
    refine x_seq ?_
    refine s_seq ?_
    refine s_region ?_
    refine qv (v := .agg #[.int .i64 kd, .int .i64 fd, .int .i64 s0, .int .u32 s1, .bool b0, .slice Ab m5.length cb, .int .i64 s3, .slice Aa m7.length ca]) (r_loadN (vs := [.int .i64 kd, .int .i64 fd, .int .i64 s0, .int .u32 s1, .bool b0, .slice Ab m5.length cb, .int .i64 s3, .slice Aa m7.length ca]) sz_30 rfl (S36.blk 1 rfl) rfl rfl) ?_
    refine qo ?_
    refine e_store (vs := [.int .i64 kd, .int .i64 fd, .int .i64 s0, .int .u32 s1, .bool b0, .slice Ab m5.length cb, .int .i64 s3, .slice Aa m7.length ca]) (cs' := [.int .i64 kd, .int .i64 fd, .int .i64 s0, .int .u32 s1, .bool b0, .slice Ab m5.length cb, .int .i64 s3, .slice Aa m7.length ca]) S36 rfl rfl rfl rfl sz_30 0 rfl (.inl rfl) rfl rfl rfl ?_
    intro w38 S39 E40
    replace HRa := rx HRa E40 (S36.blk 0 rfl)
    replace HRb := rx HRb E40 (S36.blk 0 rfl)
    refine q_nil ?_
    refine x_seq ?_
    refine s_ret ?_
    refine t_retc (cs := [.int .i64 kd, .int .i64 fd, .int .i64 s0, .int .u32 s1, .bool b0, .slice Ab m5.length cb, .int .i64 s3, .slice Aa m7.length ca])  rfl rfl (S39.blk 0 rfl) sz_30 ?_
    rw [← hm5, ← hm7]
    exact ⟨_, _, rfl, Kd.R_lower HRb.out HBo, HRa.out, S39.ext.below⟩
   ·skip
    refine e_val (v := .agg #[.bool b0, .slice A5 m5.length c5]) rfl (r_loadN (vs := [.bool b0, .slice A5 m5.length c5]) sz_26 rfl (S26.blk 2 rfl) rfl rfl) ?_
    refine ⟨trivial, ?_⟩
    refine d1 13 127 3 rfl (wn rfl) ?_
    obtain ⟨v41, w41, hr41, HRa41, E41⟩ := append_row (c := c7) 24 (empty_row (base := w.heap.size) (S26.blk 0 rfl) (S26.own _ (List.mem_of_getElem? (i := 0) rfl) rfl)) (Kd.C_below hM7 S26.ext.below) (by first | (simp; done) | (simp; omega)) (S26.ext.size)
    rw [List.nil_append] at HRa41
    obtain ⟨Aa, ca, rfl⟩ := Kd.R_slice HRa41
    refine e_val (v := .slice Aa m7.length ca) rfl (r_append rfl rfl hr41) ?_
    obtain ⟨S41, F41⟩ := St_app S26 E41
    have HRa := Aside0.mk HRa41
    refine ⟨trivial, ?_⟩
    refine dt 13 383 (v := .pointer (some ⟨g2, 7, none⟩)) 8 rfl rfl (wn rfl) (fun W hW => r_field fld_30_3 rfl rfl) trivial ?_
    refine d1 13 511 7 rfl (wn rfl) ?_
    refine e_call (args := [.agg #[.bool b0, .slice A5 m5.length c5]]) Try.func38 (by kernel_rfl) rfl rfl ?_
    have hC5 := Kd.C_below hM5 S41.ext.below
    refine (Own_at b0 A5 c5 m5 m5.length rfl _ hC5 (by omega) (by omega)).mono ?_
    rintro e w42 ⟨v, rfl, ho, hb⟩
    obtain ⟨Ab, cb, rfl⟩ := Kd.R_slice ho
    refine ⟨_, rfl, ?_⟩
    have B43 := hb
    have S44 := S41.call B43
    replace HRa := rb HRa B43
    have HRb := Aside0.mk ho
    clear ho
    have HBo := S41.ext.size
    refine ⟨trivial, ?_⟩
    refine d1 13 1023 9 rfl (wn rfl) ?_
    refine e_store (vs := [.slice Aa m7.length ca]) (cs' := [.int .i64 kd, .int .i64 fd, .int .i64 s0, .int .u32 s1, .bool b0, .slice A5 m5.length c5, .int .i64 s3, .slice Aa m7.length ca]) S44 rfl rfl rfl rfl sz_24 1 rfl (.inl rfl) rfl rfl rfl ?_
    intro w45 S46 E47
    replace HRa := rx HRa E47 (S44.blk 1 rfl)
    replace HRb := rx HRb E47 (S44.blk 1 rfl)
    refine ⟨trivial, ?_⟩
    refine dt 13 2047 (v := .pointer (some ⟨g2, 2, none⟩)) 10 rfl rfl (wn rfl) (fun W hW => r_field fld_30_2 rfl rfl) trivial ?_
    refine dt 13 4095 (v := .pointer (some ⟨g2, 4, none⟩)) 11 rfl rfl (wn rfl) (fun W hW => r_field fld_28_2 rfl rfl) trivial ?_
    refine d1 13 8191 12 rfl (wn rfl) ?_
    refine e_store (vs := [.bool b0, .slice Ab m5.length cb]) (cs' := [.int .i64 kd, .int .i64 fd, .int .i64 s0, .int .u32 s1, .bool b0, .slice Ab m5.length cb, .int .i64 s3, .slice Aa m7.length ca]) S46 rfl rfl rfl rfl sz_26 1 rfl (.inl rfl) rfl rfl rfl ?_
    intro w48 S49 E50
    replace HRa := rx HRa E50 (S46.blk 1 rfl)
    replace HRb := rx HRb E50 (S46.blk 1 rfl)
    refine ⟨trivial, ?_⟩
    refine d_done (by kernel_rfl) ?_
    refine x_seq ?_
    refine s_seq ?_
    refine s_region ?_
    refine qv (v := .agg #[.int .i64 kd, .int .i64 fd, .int .i64 s0, .int .u32 s1, .bool b0, .slice Ab m5.length cb, .int .i64 s3, .slice Aa m7.length ca]) (r_loadN (vs := [.int .i64 kd, .int .i64 fd, .int .i64 s0, .int .u32 s1, .bool b0, .slice Ab m5.length cb, .int .i64 s3, .slice Aa m7.length ca]) sz_30 rfl (S49.blk 1 rfl) rfl rfl) ?_
    refine qo ?_
    refine e_store (vs := [.int .i64 kd, .int .i64 fd, .int .i64 s0, .int .u32 s1, .bool b0, .slice Ab m5.length cb, .int .i64 s3, .slice Aa m7.length ca]) (cs' := [.int .i64 kd, .int .i64 fd, .int .i64 s0, .int .u32 s1, .bool b0, .slice Ab m5.length cb, .int .i64 s3, .slice Aa m7.length ca]) S49 rfl rfl rfl rfl sz_30 0 rfl (.inl rfl) rfl rfl rfl ?_
    intro w51 S52 E53
    replace HRa := rx HRa E53 (S49.blk 0 rfl)
    replace HRb := rx HRb E53 (S49.blk 0 rfl)
    refine q_nil ?_
    refine x_seq ?_
    refine s_ret ?_
    refine t_retc (cs := [.int .i64 kd, .int .i64 fd, .int .i64 s0, .int .u32 s1, .bool b0, .slice Ab m5.length cb, .int .i64 s3, .slice Aa m7.length ca])  rfl rfl (S52.blk 0 rfl) sz_30 ?_
    rw [← hm5, ← hm7]
    exact ⟨_, _, rfl, Kd.R_lower HRb.out HBo, HRa.out, S52.ext.below⟩
  ·skip
   refine e_val (v := .agg #[.bool b0, .slice A5 m5.length c5]) rfl (r_loadN (vs := [.bool b0, .slice A5 m5.length c5]) sz_26 rfl (S26.blk 2 rfl) rfl rfl) ?_
   refine ⟨trivial, ?_⟩
   refine d1 13 119 2 rfl (wn rfl) ?_
   refine e_val (v := .slice A7 m7.length c7) rfl (r_load1 sz_24 rfl (S26.cell 2 rfl rfl)) ?_
   refine ⟨trivial, ?_⟩
   refine d1 13 127 3 rfl (wn rfl) ?_
   obtain ⟨v54, w54, hr54, HRa54, E54⟩ := append_row (c := c7) 24 (empty_row (base := w.heap.size) (S26.blk 0 rfl) (S26.own _ (List.mem_of_getElem? (i := 0) rfl) rfl)) (Kd.C_below hM7 S26.ext.below) (by first | (simp; done) | (simp; omega)) (S26.ext.size)
   rw [List.nil_append] at HRa54
   obtain ⟨Aa, ca, rfl⟩ := Kd.R_slice HRa54
   refine e_val (v := .slice Aa m7.length ca) rfl (r_append rfl rfl hr54) ?_
   obtain ⟨S54, F54⟩ := St_app S26 E54
   have HRa := Aside0.mk HRa54
   refine ⟨trivial, ?_⟩
   refine dt 13 383 (v := .pointer (some ⟨g2, 7, none⟩)) 8 rfl rfl (wn rfl) (fun W hW => r_field fld_30_3 rfl rfl) trivial ?_
   refine d1 13 511 7 rfl (wn rfl) ?_
   refine e_call (args := [.agg #[.bool b0, .slice A5 m5.length c5]]) Try.func38 (by kernel_rfl) rfl rfl ?_
   have hC5 := Kd.C_below hM5 S54.ext.below
   refine (Own_at b0 A5 c5 m5 m5.length rfl _ hC5 (by omega) (by omega)).mono ?_
   rintro e w55 ⟨v, rfl, ho, hb⟩
   obtain ⟨Ab, cb, rfl⟩ := Kd.R_slice ho
   refine ⟨_, rfl, ?_⟩
   have B56 := hb
   have S57 := S54.call B56
   replace HRa := rb HRa B56
   have HRb := Aside0.mk ho
   clear ho
   have HBo := S54.ext.size
   refine ⟨trivial, ?_⟩
   refine d1 13 1023 9 rfl (wn rfl) ?_
   refine e_store (vs := [.slice Aa m7.length ca]) (cs' := [.int .i64 kd, .int .i64 fd, .int .i64 s0, .int .u32 s1, .bool b0, .slice A5 m5.length c5, .int .i64 s3, .slice Aa m7.length ca]) S57 rfl rfl rfl rfl sz_24 1 rfl (.inl rfl) rfl rfl rfl ?_
   intro w58 S59 E60
   replace HRa := rx HRa E60 (S57.blk 1 rfl)
   replace HRb := rx HRb E60 (S57.blk 1 rfl)
   refine ⟨trivial, ?_⟩
   refine dt 13 2047 (v := .pointer (some ⟨g2, 2, none⟩)) 10 rfl rfl (wn rfl) (fun W hW => r_field fld_30_2 rfl rfl) trivial ?_
   refine dt 13 4095 (v := .pointer (some ⟨g2, 4, none⟩)) 11 rfl rfl (wn rfl) (fun W hW => r_field fld_28_2 rfl rfl) trivial ?_
   refine d1 13 8191 12 rfl (wn rfl) ?_
   refine e_store (vs := [.bool b0, .slice Ab m5.length cb]) (cs' := [.int .i64 kd, .int .i64 fd, .int .i64 s0, .int .u32 s1, .bool b0, .slice Ab m5.length cb, .int .i64 s3, .slice Aa m7.length ca]) S59 rfl rfl rfl rfl sz_26 1 rfl (.inl rfl) rfl rfl rfl ?_
   intro w61 S62 E63
   replace HRa := rx HRa E63 (S59.blk 1 rfl)
   replace HRb := rx HRb E63 (S59.blk 1 rfl)
   refine ⟨trivial, ?_⟩
   refine d_done (by kernel_rfl) ?_
   refine x_seq ?_
   refine s_seq ?_
   refine s_region ?_
   refine qv (v := .agg #[.int .i64 kd, .int .i64 fd, .int .i64 s0, .int .u32 s1, .bool b0, .slice Ab m5.length cb, .int .i64 s3, .slice Aa m7.length ca]) (r_loadN (vs := [.int .i64 kd, .int .i64 fd, .int .i64 s0, .int .u32 s1, .bool b0, .slice Ab m5.length cb, .int .i64 s3, .slice Aa m7.length ca]) sz_30 rfl (S62.blk 1 rfl) rfl rfl) ?_
   refine qo ?_
   refine e_store (vs := [.int .i64 kd, .int .i64 fd, .int .i64 s0, .int .u32 s1, .bool b0, .slice Ab m5.length cb, .int .i64 s3, .slice Aa m7.length ca]) (cs' := [.int .i64 kd, .int .i64 fd, .int .i64 s0, .int .u32 s1, .bool b0, .slice Ab m5.length cb, .int .i64 s3, .slice Aa m7.length ca]) S62 rfl rfl rfl rfl sz_30 0 rfl (.inl rfl) rfl rfl rfl ?_
   intro w64 S65 E66
   replace HRa := rx HRa E66 (S62.blk 0 rfl)
   replace HRb := rx HRb E66 (S62.blk 0 rfl)
   refine q_nil ?_
   refine x_seq ?_
   refine s_ret ?_
   refine t_retc (cs := [.int .i64 kd, .int .i64 fd, .int .i64 s0, .int .u32 s1, .bool b0, .slice Ab m5.length cb, .int .i64 s3, .slice Aa m7.length ca])  rfl rfl (S65.blk 0 rfl) sz_30 ?_
   rw [← hm5, ← hm7]
   exact ⟨_, _, rfl, Kd.R_lower HRb.out HBo, HRa.out, S65.ext.below⟩
 ·skip
  refine e_val (v := .slice A7 m7.length c7) rfl (r_load1 sz_24 rfl (S22.cell 1 rfl rfl)) ?_
  refine ⟨trivial, ?_⟩
  refine d_two (listed' := lb 13 55) (listed'' := lb 13 118) 0 6 rfl rfl (by kernel_rfl) (wn rfl) (wn rfl) (by kernel_rfl) (by kernel_rfl) ?_ ?_
  ·skip
   refine e_new (vf := fun g => .slice (some ⟨g, 0, none⟩) 0 0) (ob := .cells #[] 3) rfl S22 (r_buildSlice (ps := []) rfl (by kernel_rfl)) ?_
   intro g67 w68 hg67 S69 B70
   refine ⟨trivial, ?_⟩
   refine d_two (listed' := lb 13 63) (listed'' := lb 13 119) 3 6 rfl rfl (by kernel_rfl) (wn rfl) (wn rfl) (by kernel_rfl) (by kernel_rfl) ?_ ?_
   ·skip
    obtain ⟨v71, w71, hr71, HRa71, E71⟩ := append_row (c := c7) 24 (empty_row (base := w.heap.size) (S69.blk 0 rfl) (S69.own _ (List.mem_of_getElem? (i := 0) rfl) rfl)) (Kd.C_below hM7 S69.ext.below) (by first | (simp; done) | (simp; omega)) (S69.ext.size)
    rw [List.nil_append] at HRa71
    obtain ⟨Aa, ca, rfl⟩ := Kd.R_slice HRa71
    refine e_val (v := .slice Aa m7.length ca) rfl (r_append rfl rfl hr71) ?_
    obtain ⟨S71, F71⟩ := St_app S69 E71
    have HRa := Aside0.mk HRa71
    refine ⟨trivial, ?_⟩
    refine d1 13 127 6 rfl (wn rfl) ?_
    refine e_val (v := .agg #[.bool b0, .slice A5 m5.length c5]) rfl (r_loadN (vs := [.bool b0, .slice A5 m5.length c5]) sz_26 rfl (S71.blk 1 rfl) rfl rfl) ?_
    refine ⟨trivial, ?_⟩
    refine dt 13 383 (v := .pointer (some ⟨g2, 7, none⟩)) 8 rfl rfl (wn rfl) (fun W hW => r_field fld_30_3 rfl rfl) trivial ?_
    refine d1 13 511 7 rfl (wn rfl) ?_
    refine e_call (args := [.agg #[.bool b0, .slice A5 m5.length c5]]) Try.func38 (by kernel_rfl) rfl rfl ?_
    have hC5 := Kd.C_below hM5 S71.ext.below
    refine (Own_at b0 A5 c5 m5 m5.length rfl _ hC5 (by omega) (by omega)).mono ?_
    rintro e w72 ⟨v, rfl, ho, hb⟩
    obtain ⟨Ab, cb, rfl⟩ := Kd.R_slice ho
    refine ⟨_, rfl, ?_⟩
    have B73 := hb
    have S74 := S71.call B73
    replace HRa := rb HRa B73
    have HRb := Aside0.mk ho
    clear ho
    have HBo := S71.ext.size
    refine ⟨trivial, ?_⟩
    refine d1 13 1023 9 rfl (wn rfl) ?_
    refine e_store (vs := [.slice Aa m7.length ca]) (cs' := [.int .i64 kd, .int .i64 fd, .int .i64 s0, .int .u32 s1, .bool b0, .slice A5 m5.length c5, .int .i64 s3, .slice Aa m7.length ca]) S74 rfl rfl rfl rfl sz_24 1 rfl (.inl rfl) rfl rfl rfl ?_
    intro w75 S76 E77
    replace HRa := rx HRa E77 (S74.blk 1 rfl)
    replace HRb := rx HRb E77 (S74.blk 1 rfl)
    refine ⟨trivial, ?_⟩
    refine dt 13 2047 (v := .pointer (some ⟨g2, 2, none⟩)) 10 rfl rfl (wn rfl) (fun W hW => r_field fld_30_2 rfl rfl) trivial ?_
    refine dt 13 4095 (v := .pointer (some ⟨g2, 4, none⟩)) 11 rfl rfl (wn rfl) (fun W hW => r_field fld_28_2 rfl rfl) trivial ?_
    refine d1 13 8191 12 rfl (wn rfl) ?_
    refine e_store (vs := [.bool b0, .slice Ab m5.length cb]) (cs' := [.int .i64 kd, .int .i64 fd, .int .i64 s0, .int .u32 s1, .bool b0, .slice Ab m5.length cb, .int .i64 s3, .slice Aa m7.length ca]) S76 rfl rfl rfl rfl sz_26 1 rfl (.inl rfl) rfl rfl rfl ?_
    intro w78 S79 E80
    replace HRa := rx HRa E80 (S76.blk 1 rfl)
    replace HRb := rx HRb E80 (S76.blk 1 rfl)
    refine ⟨trivial, ?_⟩
    refine d_done (by kernel_rfl) ?_
    refine x_seq ?_
    refine s_seq ?_
    refine s_region ?_
    refine qv (v := .agg #[.int .i64 kd, .int .i64 fd, .int .i64 s0, .int .u32 s1, .bool b0, .slice Ab m5.length cb, .int .i64 s3, .slice Aa m7.length ca]) (r_loadN (vs := [.int .i64 kd, .int .i64 fd, .int .i64 s0, .int .u32 s1, .bool b0, .slice Ab m5.length cb, .int .i64 s3, .slice Aa m7.length ca]) sz_30 rfl (S79.blk 1 rfl) rfl rfl) ?_
    refine qo ?_
    refine e_store (vs := [.int .i64 kd, .int .i64 fd, .int .i64 s0, .int .u32 s1, .bool b0, .slice Ab m5.length cb, .int .i64 s3, .slice Aa m7.length ca]) (cs' := [.int .i64 kd, .int .i64 fd, .int .i64 s0, .int .u32 s1, .bool b0, .slice Ab m5.length cb, .int .i64 s3, .slice Aa m7.length ca]) S79 rfl rfl rfl rfl sz_30 0 rfl (.inl rfl) rfl rfl rfl ?_
    intro w81 S82 E83
    replace HRa := rx HRa E83 (S79.blk 0 rfl)
    replace HRb := rx HRb E83 (S79.blk 0 rfl)
    refine q_nil ?_
    refine x_seq ?_
    refine s_ret ?_
    refine t_retc (cs := [.int .i64 kd, .int .i64 fd, .int .i64 s0, .int .u32 s1, .bool b0, .slice Ab m5.length cb, .int .i64 s3, .slice Aa m7.length ca])  rfl rfl (S82.blk 0 rfl) sz_30 ?_
    rw [← hm5, ← hm7]
    exact ⟨_, _, rfl, Kd.R_lower HRb.out HBo, HRa.out, S82.ext.below⟩
   ·skip
    refine e_val (v := .agg #[.bool b0, .slice A5 m5.length c5]) rfl (r_loadN (vs := [.bool b0, .slice A5 m5.length c5]) sz_26 rfl (S69.blk 2 rfl) rfl rfl) ?_
    refine ⟨trivial, ?_⟩
    refine d1 13 127 3 rfl (wn rfl) ?_
    obtain ⟨v84, w84, hr84, HRa84, E84⟩ := append_row (c := c7) 24 (empty_row (base := w.heap.size) (S69.blk 0 rfl) (S69.own _ (List.mem_of_getElem? (i := 0) rfl) rfl)) (Kd.C_below hM7 S69.ext.below) (by first | (simp; done) | (simp; omega)) (S69.ext.size)
    rw [List.nil_append] at HRa84
    obtain ⟨Aa, ca, rfl⟩ := Kd.R_slice HRa84
    refine e_val (v := .slice Aa m7.length ca) rfl (r_append rfl rfl hr84) ?_
    obtain ⟨S84, F84⟩ := St_app S69 E84
    have HRa := Aside0.mk HRa84
    refine ⟨trivial, ?_⟩
    refine dt 13 383 (v := .pointer (some ⟨g2, 7, none⟩)) 8 rfl rfl (wn rfl) (fun W hW => r_field fld_30_3 rfl rfl) trivial ?_
    refine d1 13 511 7 rfl (wn rfl) ?_
    refine e_call (args := [.agg #[.bool b0, .slice A5 m5.length c5]]) Try.func38 (by kernel_rfl) rfl rfl ?_
    have hC5 := Kd.C_below hM5 S84.ext.below
    refine (Own_at b0 A5 c5 m5 m5.length rfl _ hC5 (by omega) (by omega)).mono ?_
    rintro e w85 ⟨v, rfl, ho, hb⟩
    obtain ⟨Ab, cb, rfl⟩ := Kd.R_slice ho
    refine ⟨_, rfl, ?_⟩
    have B86 := hb
    have S87 := S84.call B86
    replace HRa := rb HRa B86
    have HRb := Aside0.mk ho
    clear ho
    have HBo := S84.ext.size
    refine ⟨trivial, ?_⟩
    refine d1 13 1023 9 rfl (wn rfl) ?_
    refine e_store (vs := [.slice Aa m7.length ca]) (cs' := [.int .i64 kd, .int .i64 fd, .int .i64 s0, .int .u32 s1, .bool b0, .slice A5 m5.length c5, .int .i64 s3, .slice Aa m7.length ca]) S87 rfl rfl rfl rfl sz_24 1 rfl (.inl rfl) rfl rfl rfl ?_
    intro w88 S89 E90
    replace HRa := rx HRa E90 (S87.blk 1 rfl)
    replace HRb := rx HRb E90 (S87.blk 1 rfl)
    refine ⟨trivial, ?_⟩
    refine dt 13 2047 (v := .pointer (some ⟨g2, 2, none⟩)) 10 rfl rfl (wn rfl) (fun W hW => r_field fld_30_2 rfl rfl) trivial ?_
    refine dt 13 4095 (v := .pointer (some ⟨g2, 4, none⟩)) 11 rfl rfl (wn rfl) (fun W hW => r_field fld_28_2 rfl rfl) trivial ?_
    refine d1 13 8191 12 rfl (wn rfl) ?_
    refine e_store (vs := [.bool b0, .slice Ab m5.length cb]) (cs' := [.int .i64 kd, .int .i64 fd, .int .i64 s0, .int .u32 s1, .bool b0, .slice Ab m5.length cb, .int .i64 s3, .slice Aa m7.length ca]) S89 rfl rfl rfl rfl sz_26 1 rfl (.inl rfl) rfl rfl rfl ?_
    intro w91 S92 E93
    replace HRa := rx HRa E93 (S89.blk 1 rfl)
    replace HRb := rx HRb E93 (S89.blk 1 rfl)
    refine ⟨trivial, ?_⟩
    refine d_done (by kernel_rfl) ?_
    refine x_seq ?_
    refine s_seq ?_
    refine s_region ?_
    refine qv (v := .agg #[.int .i64 kd, .int .i64 fd, .int .i64 s0, .int .u32 s1, .bool b0, .slice Ab m5.length cb, .int .i64 s3, .slice Aa m7.length ca]) (r_loadN (vs := [.int .i64 kd, .int .i64 fd, .int .i64 s0, .int .u32 s1, .bool b0, .slice Ab m5.length cb, .int .i64 s3, .slice Aa m7.length ca]) sz_30 rfl (S92.blk 1 rfl) rfl rfl) ?_
    refine qo ?_
    refine e_store (vs := [.int .i64 kd, .int .i64 fd, .int .i64 s0, .int .u32 s1, .bool b0, .slice Ab m5.length cb, .int .i64 s3, .slice Aa m7.length ca]) (cs' := [.int .i64 kd, .int .i64 fd, .int .i64 s0, .int .u32 s1, .bool b0, .slice Ab m5.length cb, .int .i64 s3, .slice Aa m7.length ca]) S92 rfl rfl rfl rfl sz_30 0 rfl (.inl rfl) rfl rfl rfl ?_
    intro w94 S95 E96
    replace HRa := rx HRa E96 (S92.blk 0 rfl)
    replace HRb := rx HRb E96 (S92.blk 0 rfl)
    refine q_nil ?_
    refine x_seq ?_
    refine s_ret ?_
    refine t_retc (cs := [.int .i64 kd, .int .i64 fd, .int .i64 s0, .int .u32 s1, .bool b0, .slice Ab m5.length cb, .int .i64 s3, .slice Aa m7.length ca])  rfl rfl (S95.blk 0 rfl) sz_30 ?_
    rw [← hm5, ← hm7]
    exact ⟨_, _, rfl, Kd.R_lower HRb.out HBo, HRa.out, S95.ext.below⟩
  ·skip
   refine e_val (v := .agg #[.bool b0, .slice A5 m5.length c5]) rfl (r_loadN (vs := [.bool b0, .slice A5 m5.length c5]) sz_26 rfl (S22.blk 1 rfl) rfl rfl) ?_
   refine ⟨trivial, ?_⟩
   refine d1 13 119 0 rfl (wn rfl) ?_
   refine e_new (vf := fun g => .slice (some ⟨g, 0, none⟩) 0 0) (ob := .cells #[] 3) rfl S22 (r_buildSlice (ps := []) rfl (by kernel_rfl)) ?_
   intro g97 w98 hg97 S99 B100
   refine ⟨trivial, ?_⟩
   refine d1 13 127 3 rfl (wn rfl) ?_
   obtain ⟨v101, w101, hr101, HRa101, E101⟩ := append_row (c := c7) 24 (empty_row (base := w.heap.size) (S99.blk 0 rfl) (S99.own _ (List.mem_of_getElem? (i := 0) rfl) rfl)) (Kd.C_below hM7 S99.ext.below) (by first | (simp; done) | (simp; omega)) (S99.ext.size)
   rw [List.nil_append] at HRa101
   obtain ⟨Aa, ca, rfl⟩ := Kd.R_slice HRa101
   refine e_val (v := .slice Aa m7.length ca) rfl (r_append rfl rfl hr101) ?_
   obtain ⟨S101, F101⟩ := St_app S99 E101
   have HRa := Aside0.mk HRa101
   refine ⟨trivial, ?_⟩
   refine dt 13 383 (v := .pointer (some ⟨g2, 7, none⟩)) 8 rfl rfl (wn rfl) (fun W hW => r_field fld_30_3 rfl rfl) trivial ?_
   refine d1 13 511 7 rfl (wn rfl) ?_
   refine e_call (args := [.agg #[.bool b0, .slice A5 m5.length c5]]) Try.func38 (by kernel_rfl) rfl rfl ?_
   have hC5 := Kd.C_below hM5 S101.ext.below
   refine (Own_at b0 A5 c5 m5 m5.length rfl _ hC5 (by omega) (by omega)).mono ?_
   rintro e w102 ⟨v, rfl, ho, hb⟩
   obtain ⟨Ab, cb, rfl⟩ := Kd.R_slice ho
   refine ⟨_, rfl, ?_⟩
   have B103 := hb
   have S104 := S101.call B103
   replace HRa := rb HRa B103
   have HRb := Aside0.mk ho
   clear ho
   have HBo := S101.ext.size
   refine ⟨trivial, ?_⟩
   refine d1 13 1023 9 rfl (wn rfl) ?_
   refine e_store (vs := [.slice Aa m7.length ca]) (cs' := [.int .i64 kd, .int .i64 fd, .int .i64 s0, .int .u32 s1, .bool b0, .slice A5 m5.length c5, .int .i64 s3, .slice Aa m7.length ca]) S104 rfl rfl rfl rfl sz_24 1 rfl (.inl rfl) rfl rfl rfl ?_
   intro w105 S106 E107
   replace HRa := rx HRa E107 (S104.blk 1 rfl)
   replace HRb := rx HRb E107 (S104.blk 1 rfl)
   refine ⟨trivial, ?_⟩
   refine dt 13 2047 (v := .pointer (some ⟨g2, 2, none⟩)) 10 rfl rfl (wn rfl) (fun W hW => r_field fld_30_2 rfl rfl) trivial ?_
   refine dt 13 4095 (v := .pointer (some ⟨g2, 4, none⟩)) 11 rfl rfl (wn rfl) (fun W hW => r_field fld_28_2 rfl rfl) trivial ?_
   refine d1 13 8191 12 rfl (wn rfl) ?_
   refine e_store (vs := [.bool b0, .slice Ab m5.length cb]) (cs' := [.int .i64 kd, .int .i64 fd, .int .i64 s0, .int .u32 s1, .bool b0, .slice Ab m5.length cb, .int .i64 s3, .slice Aa m7.length ca]) S106 rfl rfl rfl rfl sz_26 1 rfl (.inl rfl) rfl rfl rfl ?_
   intro w108 S109 E110
   replace HRa := rx HRa E110 (S106.blk 1 rfl)
   replace HRb := rx HRb E110 (S106.blk 1 rfl)
   refine ⟨trivial, ?_⟩
   refine d_done (by kernel_rfl) ?_
   refine x_seq ?_
   refine s_seq ?_
   refine s_region ?_
   refine qv (v := .agg #[.int .i64 kd, .int .i64 fd, .int .i64 s0, .int .u32 s1, .bool b0, .slice Ab m5.length cb, .int .i64 s3, .slice Aa m7.length ca]) (r_loadN (vs := [.int .i64 kd, .int .i64 fd, .int .i64 s0, .int .u32 s1, .bool b0, .slice Ab m5.length cb, .int .i64 s3, .slice Aa m7.length ca]) sz_30 rfl (S109.blk 1 rfl) rfl rfl) ?_
   refine qo ?_
   refine e_store (vs := [.int .i64 kd, .int .i64 fd, .int .i64 s0, .int .u32 s1, .bool b0, .slice Ab m5.length cb, .int .i64 s3, .slice Aa m7.length ca]) (cs' := [.int .i64 kd, .int .i64 fd, .int .i64 s0, .int .u32 s1, .bool b0, .slice Ab m5.length cb, .int .i64 s3, .slice Aa m7.length ca]) S109 rfl rfl rfl rfl sz_30 0 rfl (.inl rfl) rfl rfl rfl ?_
   intro w111 S112 E113
   replace HRa := rx HRa E113 (S109.blk 0 rfl)
   replace HRb := rx HRb E113 (S109.blk 0 rfl)
   refine q_nil ?_
   refine x_seq ?_
   refine s_ret ?_
   refine t_retc (cs := [.int .i64 kd, .int .i64 fd, .int .i64 s0, .int .u32 s1, .bool b0, .slice Ab m5.length cb, .int .i64 s3, .slice Aa m7.length ca])  rfl rfl (S112.blk 0 rfl) sz_30 ?_
   rw [← hm5, ← hm7]
   exact ⟨_, _, rfl, Kd.R_lower HRb.out HBo, HRa.out, S112.ext.below⟩
 ·skip
  refine e_val (v := .agg #[.bool b0, .slice A5 m5.length c5]) rfl (r_loadN (vs := [.bool b0, .slice A5 m5.length c5]) sz_26 rfl (S22.blk 1 rfl) rfl rfl) ?_
  refine ⟨trivial, ?_⟩
  refine d_two (listed' := lb 13 115) (listed'' := lb 13 118) 0 2 rfl rfl (by kernel_rfl) (wn rfl) (wn rfl) (by kernel_rfl) (by kernel_rfl) ?_ ?_
  ·skip
   refine e_new (vf := fun g => .slice (some ⟨g, 0, none⟩) 0 0) (ob := .cells #[] 3) rfl S22 (r_buildSlice (ps := []) rfl (by kernel_rfl)) ?_
   intro g114 w115 hg114 S116 B117
   refine ⟨trivial, ?_⟩
   refine d1 13 119 2 rfl (wn rfl) ?_
   refine e_val (v := .slice A7 m7.length c7) rfl (r_load1 sz_24 rfl (S116.cell 2 rfl rfl)) ?_
   refine ⟨trivial, ?_⟩
   refine d1 13 127 3 rfl (wn rfl) ?_
   obtain ⟨v118, w118, hr118, HRa118, E118⟩ := append_row (c := c7) 24 (empty_row (base := w.heap.size) (S116.blk 0 rfl) (S116.own _ (List.mem_of_getElem? (i := 0) rfl) rfl)) (Kd.C_below hM7 S116.ext.below) (by first | (simp; done) | (simp; omega)) (S116.ext.size)
   rw [List.nil_append] at HRa118
   obtain ⟨Aa, ca, rfl⟩ := Kd.R_slice HRa118
   refine e_val (v := .slice Aa m7.length ca) rfl (r_append rfl rfl hr118) ?_
   obtain ⟨S118, F118⟩ := St_app S116 E118
   have HRa := Aside0.mk HRa118
   refine ⟨trivial, ?_⟩
   refine dt 13 383 (v := .pointer (some ⟨g2, 7, none⟩)) 8 rfl rfl (wn rfl) (fun W hW => r_field fld_30_3 rfl rfl) trivial ?_
   refine d1 13 511 7 rfl (wn rfl) ?_
   refine e_call (args := [.agg #[.bool b0, .slice A5 m5.length c5]]) Try.func38 (by kernel_rfl) rfl rfl ?_
   have hC5 := Kd.C_below hM5 S118.ext.below
   refine (Own_at b0 A5 c5 m5 m5.length rfl _ hC5 (by omega) (by omega)).mono ?_
   rintro e w119 ⟨v, rfl, ho, hb⟩
   obtain ⟨Ab, cb, rfl⟩ := Kd.R_slice ho
   refine ⟨_, rfl, ?_⟩
   have B120 := hb
   have S121 := S118.call B120
   replace HRa := rb HRa B120
   have HRb := Aside0.mk ho
   clear ho
   have HBo := S118.ext.size
   refine ⟨trivial, ?_⟩
   refine d1 13 1023 9 rfl (wn rfl) ?_
   refine e_store (vs := [.slice Aa m7.length ca]) (cs' := [.int .i64 kd, .int .i64 fd, .int .i64 s0, .int .u32 s1, .bool b0, .slice A5 m5.length c5, .int .i64 s3, .slice Aa m7.length ca]) S121 rfl rfl rfl rfl sz_24 1 rfl (.inl rfl) rfl rfl rfl ?_
   intro w122 S123 E124
   replace HRa := rx HRa E124 (S121.blk 1 rfl)
   replace HRb := rx HRb E124 (S121.blk 1 rfl)
   refine ⟨trivial, ?_⟩
   refine dt 13 2047 (v := .pointer (some ⟨g2, 2, none⟩)) 10 rfl rfl (wn rfl) (fun W hW => r_field fld_30_2 rfl rfl) trivial ?_
   refine dt 13 4095 (v := .pointer (some ⟨g2, 4, none⟩)) 11 rfl rfl (wn rfl) (fun W hW => r_field fld_28_2 rfl rfl) trivial ?_
   refine d1 13 8191 12 rfl (wn rfl) ?_
   refine e_store (vs := [.bool b0, .slice Ab m5.length cb]) (cs' := [.int .i64 kd, .int .i64 fd, .int .i64 s0, .int .u32 s1, .bool b0, .slice Ab m5.length cb, .int .i64 s3, .slice Aa m7.length ca]) S123 rfl rfl rfl rfl sz_26 1 rfl (.inl rfl) rfl rfl rfl ?_
   intro w125 S126 E127
   replace HRa := rx HRa E127 (S123.blk 1 rfl)
   replace HRb := rx HRb E127 (S123.blk 1 rfl)
   refine ⟨trivial, ?_⟩
   refine d_done (by kernel_rfl) ?_
   refine x_seq ?_
   refine s_seq ?_
   refine s_region ?_
   refine qv (v := .agg #[.int .i64 kd, .int .i64 fd, .int .i64 s0, .int .u32 s1, .bool b0, .slice Ab m5.length cb, .int .i64 s3, .slice Aa m7.length ca]) (r_loadN (vs := [.int .i64 kd, .int .i64 fd, .int .i64 s0, .int .u32 s1, .bool b0, .slice Ab m5.length cb, .int .i64 s3, .slice Aa m7.length ca]) sz_30 rfl (S126.blk 1 rfl) rfl rfl) ?_
   refine qo ?_
   refine e_store (vs := [.int .i64 kd, .int .i64 fd, .int .i64 s0, .int .u32 s1, .bool b0, .slice Ab m5.length cb, .int .i64 s3, .slice Aa m7.length ca]) (cs' := [.int .i64 kd, .int .i64 fd, .int .i64 s0, .int .u32 s1, .bool b0, .slice Ab m5.length cb, .int .i64 s3, .slice Aa m7.length ca]) S126 rfl rfl rfl rfl sz_30 0 rfl (.inl rfl) rfl rfl rfl ?_
   intro w128 S129 E130
   replace HRa := rx HRa E130 (S126.blk 0 rfl)
   replace HRb := rx HRb E130 (S126.blk 0 rfl)
   refine q_nil ?_
   refine x_seq ?_
   refine s_ret ?_
   refine t_retc (cs := [.int .i64 kd, .int .i64 fd, .int .i64 s0, .int .u32 s1, .bool b0, .slice Ab m5.length cb, .int .i64 s3, .slice Aa m7.length ca])  rfl rfl (S129.blk 0 rfl) sz_30 ?_
   rw [← hm5, ← hm7]
   exact ⟨_, _, rfl, Kd.R_lower HRb.out HBo, HRa.out, S129.ext.below⟩
  ·skip
   refine e_val (v := .slice A7 m7.length c7) rfl (r_load1 sz_24 rfl (S22.cell 1 rfl rfl)) ?_
   refine ⟨trivial, ?_⟩
   refine d1 13 119 0 rfl (wn rfl) ?_
   refine e_new (vf := fun g => .slice (some ⟨g, 0, none⟩) 0 0) (ob := .cells #[] 3) rfl S22 (r_buildSlice (ps := []) rfl (by kernel_rfl)) ?_
   intro g131 w132 hg131 S133 B134
   refine ⟨trivial, ?_⟩
   refine d1 13 127 3 rfl (wn rfl) ?_
   obtain ⟨v135, w135, hr135, HRa135, E135⟩ := append_row (c := c7) 24 (empty_row (base := w.heap.size) (S133.blk 0 rfl) (S133.own _ (List.mem_of_getElem? (i := 0) rfl) rfl)) (Kd.C_below hM7 S133.ext.below) (by first | (simp; done) | (simp; omega)) (S133.ext.size)
   rw [List.nil_append] at HRa135
   obtain ⟨Aa, ca, rfl⟩ := Kd.R_slice HRa135
   refine e_val (v := .slice Aa m7.length ca) rfl (r_append rfl rfl hr135) ?_
   obtain ⟨S135, F135⟩ := St_app S133 E135
   have HRa := Aside0.mk HRa135
   refine ⟨trivial, ?_⟩
   refine dt 13 383 (v := .pointer (some ⟨g2, 7, none⟩)) 8 rfl rfl (wn rfl) (fun W hW => r_field fld_30_3 rfl rfl) trivial ?_
   refine d1 13 511 7 rfl (wn rfl) ?_
   refine e_call (args := [.agg #[.bool b0, .slice A5 m5.length c5]]) Try.func38 (by kernel_rfl) rfl rfl ?_
   have hC5 := Kd.C_below hM5 S135.ext.below
   refine (Own_at b0 A5 c5 m5 m5.length rfl _ hC5 (by omega) (by omega)).mono ?_
   rintro e w136 ⟨v, rfl, ho, hb⟩
   obtain ⟨Ab, cb, rfl⟩ := Kd.R_slice ho
   refine ⟨_, rfl, ?_⟩
   have B137 := hb
   have S138 := S135.call B137
   replace HRa := rb HRa B137
   have HRb := Aside0.mk ho
   clear ho
   have HBo := S135.ext.size
   refine ⟨trivial, ?_⟩
   refine d1 13 1023 9 rfl (wn rfl) ?_
   refine e_store (vs := [.slice Aa m7.length ca]) (cs' := [.int .i64 kd, .int .i64 fd, .int .i64 s0, .int .u32 s1, .bool b0, .slice A5 m5.length c5, .int .i64 s3, .slice Aa m7.length ca]) S138 rfl rfl rfl rfl sz_24 1 rfl (.inl rfl) rfl rfl rfl ?_
   intro w139 S140 E141
   replace HRa := rx HRa E141 (S138.blk 1 rfl)
   replace HRb := rx HRb E141 (S138.blk 1 rfl)
   refine ⟨trivial, ?_⟩
   refine dt 13 2047 (v := .pointer (some ⟨g2, 2, none⟩)) 10 rfl rfl (wn rfl) (fun W hW => r_field fld_30_2 rfl rfl) trivial ?_
   refine dt 13 4095 (v := .pointer (some ⟨g2, 4, none⟩)) 11 rfl rfl (wn rfl) (fun W hW => r_field fld_28_2 rfl rfl) trivial ?_
   refine d1 13 8191 12 rfl (wn rfl) ?_
   refine e_store (vs := [.bool b0, .slice Ab m5.length cb]) (cs' := [.int .i64 kd, .int .i64 fd, .int .i64 s0, .int .u32 s1, .bool b0, .slice Ab m5.length cb, .int .i64 s3, .slice Aa m7.length ca]) S140 rfl rfl rfl rfl sz_26 1 rfl (.inl rfl) rfl rfl rfl ?_
   intro w142 S143 E144
   replace HRa := rx HRa E144 (S140.blk 1 rfl)
   replace HRb := rx HRb E144 (S140.blk 1 rfl)
   refine ⟨trivial, ?_⟩
   refine d_done (by kernel_rfl) ?_
   refine x_seq ?_
   refine s_seq ?_
   refine s_region ?_
   refine qv (v := .agg #[.int .i64 kd, .int .i64 fd, .int .i64 s0, .int .u32 s1, .bool b0, .slice Ab m5.length cb, .int .i64 s3, .slice Aa m7.length ca]) (r_loadN (vs := [.int .i64 kd, .int .i64 fd, .int .i64 s0, .int .u32 s1, .bool b0, .slice Ab m5.length cb, .int .i64 s3, .slice Aa m7.length ca]) sz_30 rfl (S143.blk 1 rfl) rfl rfl) ?_
   refine qo ?_
   refine e_store (vs := [.int .i64 kd, .int .i64 fd, .int .i64 s0, .int .u32 s1, .bool b0, .slice Ab m5.length cb, .int .i64 s3, .slice Aa m7.length ca]) (cs' := [.int .i64 kd, .int .i64 fd, .int .i64 s0, .int .u32 s1, .bool b0, .slice Ab m5.length cb, .int .i64 s3, .slice Aa m7.length ca]) S143 rfl rfl rfl rfl sz_30 0 rfl (.inl rfl) rfl rfl rfl ?_
   intro w145 S146 E147
   replace HRa := rx HRa E147 (S143.blk 0 rfl)
   replace HRb := rx HRb E147 (S143.blk 0 rfl)
   refine q_nil ?_
   refine x_seq ?_
   refine s_ret ?_
   refine t_retc (cs := [.int .i64 kd, .int .i64 fd, .int .i64 s0, .int .u32 s1, .bool b0, .slice Ab m5.length cb, .int .i64 s3, .slice Aa m7.length ca])  rfl rfl (S146.blk 0 rfl) sz_30 ?_
   rw [← hm5, ← hm7]
   exact ⟨_, _, rfl, Kd.R_lower HRb.out HBo, HRa.out, S146.ext.below⟩
end Go.Proofs.Ytilfalpfanaanaa.PA

namespace Go.Proofs.Ytilfalpfanaanaa.PA
open Go.RowKit Go.Proofs.YtilfalpfanaanaaW.PrintWords Go.Proofs.YtilfalpfanaanaaW.PrintLast Go.Proofs.YtilfalpfanaanaaW.PrintMore Go.Proofs.Ytilfalpfanaanaa.Sx
open Go.ChangeShapes Go.WideShapes Go.ChangeAt Go.Joins
set_option maxRecDepth 100000
theorem list5 {α : Type} {l : List α} (h : l.length = 5) : ∃ a b c d e, l = [a, b, c, d, e] := by
  match l, h with
  | [a, b, c, d, e], _ => exact ⟨a, b, c, d, e, rfl⟩
theorem list8 {α : Type} {l : List α} (h : l.length = 8) : ∃ a b c d e f g i, l = [a, b, c, d, e, f, g, i] := by
  match l, h with
  | [a, b, c, d, e, f, g, i], _ => exact ⟨a, b, c, d, e, f, g, i, rfl⟩
section
variable {H : Type} {enc : TypeId × Value → H} {W : World} {fuel : Nat} {cs : List Value} {x : DataW H × List MemPlace}
theorem trod_row (h : DataW.trod enc Try.prog W 0 (fun _ => true) true fuel 24 cs = some x) :
    ∃ a cap, ∃ l : List Int, cs = [.slice a l.length cap] ∧ Kd.C (Kd.int .i64) W a l.length l ∧ l.length ≤ cap ∧ ∀ z ∈ l, (Lit.int .i64 z).wf = true := by
  have key : ∃ a len cap zs, cs = [.slice a len cap] ∧ ((a = none ∧ len = 0 ∧ cap = 0 ∧ zs = []) ∨ ∃ x, a = some x ∧ len ≤ cap ∧ cap ≤ maxLen ∧ zs.length = cap ∧ (∀ i, i < zs.length → W.cell? (x.add i) = some (.int .i64 (zs.getD i 0))) ∧ ∀ n ∈ zs, (Lit.int .i64 n).wf = true) := by
    rcases open_ints Try.underlying24 Try.underlying3 (by kernel_rfl) h with ⟨hcs, _⟩ | ⟨x, l, c, zs, hcs, _, hl, hm, hz, _, hcell, hwz⟩
    · exact ⟨none, 0, 0, [], hcs, .inl ⟨rfl, rfl, rfl, rfl⟩⟩
    · exact ⟨some x, l, c, zs, hcs, .inr ⟨_, rfl, hl, hm, by simpa using hz, hcell, hwz⟩⟩
  obtain ⟨a, len, cap, zs, hcs, hr⟩ := key
  obtain ⟨l, rfl, h1, h2, h3, h4⟩ := ReadsInt.ofRowC hr
  exact ⟨a, cap, l, hcs, Kd.C_of_reads (d := (0 : Int)) (h1 := fun _ => rfl) h1, h4, h3⟩
theorem trod_slot (h : DataW.trod enc Try.prog W 0 (fun _ => true) true fuel 28 cs = some x) :
    ∃ (s : Slot) (a : Option Addr) (cap : Nat), cs = [.int .i64 s.f0, .int .u32 s.f1, .bool s.f2.f0, .slice a s.f2.f1.length cap, .int .i64 s.f3] ∧ Kd.C (Kd.int .i64) W a s.f2.f1.length s.f2.f1 ∧ s.f2.f1.length ≤ cap ∧
      (Lit.int .i64 s.f0).wf = true ∧ (Lit.int .u32 s.f1).wf = true ∧ (Lit.int .i64 s.f3).wf = true := by
  obtain ⟨y0, y1, y2, y3, n, _, hl, h0, h1, h2, h3⟩ := trod_struct4 Try.underlying28 h
  have hl : cs.length = 5 := hl.trans (by kernel_rfl)
  obtain ⟨c0, c1, c2, c3, c4, rfl⟩ := list5 hl
  have h0 : DataW.trod enc Try.prog W 0 (fun _ => true) true n 3 [c0] = some y0 := h0
  have h1 : DataW.trod enc Try.prog W 0 (fun _ => true) true n 23 [c1] = some y1 := h1
  have h2 : DataW.trod enc Try.prog W 0 (fun _ => true) true n 26 [c2, c3] = some y2 := h2
  have h3 : DataW.trod enc Try.prog W 0 (fun _ => true) true n 3 [c4] = some y3 := h3
  obtain ⟨f0, e0, _, w0⟩ := DataW.trod_int Try.underlying3 h0
  obtain ⟨f1, e1, _, w1⟩ := DataW.trod_int Try.underlying23 h1
  obtain ⟨f3, e3, _, w3⟩ := DataW.trod_int Try.underlying3 h3
  obtain ⟨z0, z1, m, _, _, g0, g1⟩ := trod_struct2 Try.underlying26 h2
  have g0 : DataW.trod enc Try.prog W 0 (fun _ => true) true m 4 [c2] = some z0 := g0
  have g1 : DataW.trod enc Try.prog W 0 (fun _ => true) true m 24 [c3] = some z1 := g1
  obtain ⟨b, e2, _⟩ := DataW.trod_bool Try.underlying4 g0
  obtain ⟨a, cap, l, el, hC, hcap, _⟩ := trod_row g1
  obtain rfl : c0 = .int .i64 f0 := by simpa using e0
  obtain rfl : c1 = .int .u32 f1 := by simpa using e1
  obtain rfl : c2 = .bool b := by simpa using e2
  obtain rfl : c3 = .slice a l.length cap := by simpa using el
  obtain rfl : c4 = .int .i64 f3 := by simpa using e3
  exact ⟨⟨f0, f1, ⟨b, l⟩, f3⟩, a, cap, rfl, hC, hcap, w0, w1, w3⟩
structure ActV where
  kd : Int
  fd : Int
  s0 : Int
  s1 : Int
  b0 : Bool
  l5 : List Int
  s3 : Int
  l7 : List Int
def ActV.cells (x : ActV) (A5 : Option Addr) (c5 : Nat) (A7 : Option Addr) (c7 : Nat) : List Value := [.int .i64 x.kd, .int .i64 x.fd, .int .i64 x.s0, .int .u32 x.s1, .bool x.b0, .slice A5 x.l5.length c5, .int .i64 x.s3, .slice A7 x.l7.length c7]
structure ActAt (W : World) (x : ActV) (A5 : Option Addr) (c5 : Nat) (A7 : Option Addr) (c7 : Nat) : Prop where
  r5 : Kd.C (Kd.int .i64) W A5 x.l5.length x.l5
  k5 : x.l5.length ≤ c5
  r7 : Kd.C (Kd.int .i64) W A7 x.l7.length x.l7
  k7 : x.l7.length ≤ c7
  wfd : (Lit.int .i64 x.fd).wf = true
  w0 : (Lit.int .i64 x.s0).wf = true
  w1 : (Lit.int .u32 x.s1).wf = true
  w3 : (Lit.int .i64 x.s3).wf = true
  wkd : (Lit.int .i64 x.kd).wf = true
theorem trod_act (h : DataW.trod enc Try.prog W 0 (fun _ => true) true fuel 30 cs = some x) : ∃ v A5 c5 A7 c7, cs = ActV.cells v A5 c5 A7 c7 ∧ ActAt W v A5 c5 A7 c7 := by
  obtain ⟨y0, y1, y2, y3, n, _, hl, h0, h1, h2, h3⟩ := trod_struct4 Try.underlying30 h
  have hl : cs.length = 8 := hl.trans (by kernel_rfl)
  obtain ⟨c0, c1, c2, c3, c4, c5, c6, c7, rfl⟩ := list8 hl
  have h0 : DataW.trod enc Try.prog W 0 (fun _ => true) true n 3 [c0] = some y0 := h0
  have h1 : DataW.trod enc Try.prog W 0 (fun _ => true) true n 3 [c1] = some y1 := h1
  have h2 : DataW.trod enc Try.prog W 0 (fun _ => true) true n 28 [c2, c3, c4, c5, c6] = some y2 := h2
  have h3 : DataW.trod enc Try.prog W 0 (fun _ => true) true n 24 [c7] = some y3 := h3
  obtain ⟨kd, e0, _, w0⟩ := DataW.trod_int Try.underlying3 h0
  obtain ⟨fd, e1, _, w1⟩ := DataW.trod_int Try.underlying3 h1
  obtain ⟨s, a, cap, e2, hC, hcap, v0, v1, v3⟩ := trod_slot h2
  obtain ⟨a', cap', l, el, hC', hcap', _⟩ := trod_row h3
  obtain rfl : c0 = .int .i64 kd := by simpa using e0
  obtain rfl : c1 = .int .i64 fd := by simpa using e1
  obtain rfl : c7 = .slice a' l.length cap' := by simpa using el
  injection e2 with e2 e3; injection e3 with e3 e4; injection e4 with e4 e5; injection e5 with e5 e6; injection e6 with e6 e7
  subst e2 e3 e4 e5 e6
  exact ⟨⟨kd, fd, s.f0, s.f1, s.f2.f0, s.f2.f1, s.f3, l⟩, a, cap, a', cap', rfl, hC, hcap, hC', hcap', w1, v0, v1, v3, w0⟩
end
theorem u32_nonneg {a : Int} (h : (Lit.int .u32 a).wf = true) : 0 ≤ a := by
  have hm : IntKind.u32.min = 0 := by kernel_rfl
  simp [Lit.wf] at h
  omega
end Go.Proofs.Ytilfalpfanaanaa.PA

namespace Go.Proofs.Ytilfalpfanaanaa.PA
open Go.RowKit Go.Proofs.YtilfalpfanaanaaW.PrintWords Go.Proofs.YtilfalpfanaanaaW.PrintLast Go.Proofs.YtilfalpfanaanaaW.PrintMore Go.Proofs.Ytilfalpfanaanaa.Sx
section
variable {w w' : World} {b g p : Nat} {ok ok2 : Nat → Prop} {qs qs2 : List (Option Nat)} {ss ss2 : List (Option Slot)} {P P2 : Nat → Prop} {ad ad2 : Addr} {c c2 : Nat}
theorem TabAt.bound (h : TabAt w b ok g p qs ss) : TabAt w b (fun k => ok k ∧ k < w.heap.size) g p qs ss :=
  { h with
    low := ⟨h.low.1, h.low.2.1, ⟨h.low.2.2.1, blk_lt h.tab⟩, ⟨h.low.2.2.2, blk_lt h.row⟩⟩
    som := fun i q hq => by
      obtain ⟨h1, h2, s, h3, A, c, h5, h6⟩ := h.som i q hq
      exact ⟨h1, ⟨h2, blk_lt h5⟩, s, h3, A, c, h5, Kd.R_mono (Kd.R_bound h6) (fun k hk => ⟨hk.1, hk.2.2.1⟩)⟩ }
structure DInv (w : World) (b g p : Nat) (ok : Nat → Prop) (qs : List (Option Nat)) (ss : List (Option Slot)) (P : Nat → Prop) (ad : Addr) (c : Nat) : Prop where
  T : TabAt w b ok g p qs ss
  L : LV w P ad c (ls ss)
  D : ∀ k, ok k → P k → False
  okN : ∀ k, ok k → k < w.heap.size
  PN : ∀ k, P k → k < w.heap.size
  G : Good ss
def Post (w : World) (b g p : Nat) (ok : Nat → Prop) (n : Nat) (P : Nat → Prop) (e : Ending) (w' : World) : Prop :=
  ∃ qs' ss' ok' P' ad' c', e = .returned (.tuple #[.slice (some ad') (ls ss').length c', .bool true]) ∧ DInv w' b g p ok' qs' ss' P' ad' c' ∧ Ext ok w w' ∧ ss'.length = n ∧ (∀ k, ok' k → ok k ∨ w.heap.size ≤ k) ∧ (∀ k, P' k → P k ∨ w.heap.size ≤ k)
theorem DInv.few (h : DInv w b g p ok qs ss P ad c) : 1 ≤ ss.length ∧ ss.length ≤ 64 := by rw [h.T.len]; exact h.T.few
theorem DInv.step (h : DInv w b g p ok qs ss P ad c) (hb : Below w.heap.size w w') : DInv w' b g p ok qs ss P ad c :=
  ⟨h.T.below hb, Kd.V_below h.L hb, h.D, fun k hk => Nat.lt_of_lt_of_le (h.okN k hk) hb.size, fun k hk => Nat.lt_of_lt_of_le (h.PN k hk) hb.size, h.G⟩
theorem post_same (h : DInv w b g p ok qs ss P ad c) (E : Ext ok w w') (T : TabAt w' b ok g p qs ss) (L : LV w' P ad c (ls ss)) : Post w b g p ok ss.length P (.returned (.tuple #[.slice (some ad) (ls ss).length c, .bool true])) w' :=
  ⟨qs, ss, ok, P, ad, c, rfl, ⟨T, L, h.D, fun k hk => Nat.lt_of_lt_of_le (h.okN k hk) E.size, fun k hk => Nat.lt_of_lt_of_le (h.PN k hk) E.size, h.G⟩, E, rfl, fun k hk => .inl hk, fun k hk => .inl hk⟩
theorem post_new (h : DInv w b g p ok qs ss P ad c) (E : Ext ok w w') (T : TabAt w' b ok2 g p qs2 ss2) (L : LV w' P2 ad2 c2 (ls ss2)) (hlen : ss2.length = ss.length) (hG : Good ss2) (a1 a2 : Nat) (h1 : w.heap.size ≤ a1) (h2 : a1 ≤ a2)
    (hok : ∀ k, ok2 k → k < w'.heap.size → ok k ∨ (a1 ≤ k ∧ k < a2)) (hP : ∀ k, P2 k → k < w'.heap.size → P k ∨ (w.heap.size ≤ k ∧ k < a1) ∨ a2 ≤ k) : Post w b g p ok ss.length P (.returned (.tuple #[.slice (some ad2) (ls ss2).length c2, .bool true])) w' :=
  ⟨qs2, ss2, _, _, ad2, c2, rfl, ⟨T.bound, Kd.V_bound L, fun k h3 h4 => by
    rcases hok k h3.1 h3.2 with h5 | h5
    · have := h.okN k h5
      rcases hP k h4.1 h4.2 with h6 | h6
      · exact h.D k h5 h6
      · omega
    · rcases hP k h4.1 h4.2 with h6 | h6
      · have := h.PN k h6; omega
      · omega, fun k hk => hk.2, fun k hk => hk.2, hG⟩, E, hlen, fun k hk => (hok k hk.1 hk.2).elim .inl (fun h => .inr (by omega)), fun k hk => (hP k hk.1 hk.2).elim .inl (fun h => .inr (by omega))⟩
theorem tab_no (T : TabAt w b ok g p qs ss) {fd : Int} (h : ∀ s, 0 ≤ fd → ss[fd.toNat]? ≠ some (some s)) : ∀ q, 0 ≤ fd → qs[fd.toNat]? ≠ some (some q) := fun q h0 hs => by
  obtain ⟨_, _, s, h1, _⟩ := T.som _ _ hs; exact h s h0 h1
theorem tab_yes (T : TabAt w b ok g p qs ss) {i : Nat} {s : Slot} (h : ss[i]? = some (some s)) : ∃ q, qs[i]? = some (some q) := by
  have hlt : i < qs.length := by have := get_lt h; rw [T.len] at this; exact this
  cases e : qs[i] with
  | some q => exact ⟨q, by rw [List.getElem?_eq_getElem hlt, e]⟩
  | none => have := T.non i (by rw [List.getElem?_eq_getElem hlt, e]); rw [this] at h; cases h
theorem tab_none (T : TabAt w b ok g p qs ss) {i : Nat} (h : ss[i]? = some none) : qs[i]? = some none := by
  have hlt : i < qs.length := by have := get_lt h; rw [T.len] at this; exact this
  cases e : qs[i] with
  | none => rw [List.getElem?_eq_getElem hlt, e]
  | some q =>
    obtain ⟨_, _, s, h1, _⟩ := T.som i q (by rw [List.getElem?_eq_getElem hlt, e])
    rw [h] at h1; cases h1
theorem LV_ne {T : TypeId} {qs' : List (Option Nat)} (h : LV w P ad c (ls ss)) (hl : 0 < ss.length) (hp : w.heap[p]? = some (.cells (qs'.map ptrV).toArray T (0, 0))) : ad.block ≠ p := by
  intro e
  obtain ⟨x, hx⟩ : ∃ x, ss[(0 : Int).toNat]? = some x := ⟨ss[0], List.getElem?_eq_getElem hl⟩
  obtain ⟨A3, c3, hc, _⟩ := LV_at h (Int.le_refl 0) hx
  have h0 := hc 0 _ rfl
  subst e
  have hb : (ad.add ((0 : Int).toNat * 5 + 0)).block = ad.block := Sx.add_block _ _
  unfold World.cell? at h0
  rw [hb, hp] at h0
  dsimp only at h0
  split at h0
  · cases h0
  · rw [List.getElem?_toArray, List.getElem?_map] at h0
    cases e2 : qs'[(ad.add ((0 : Int).toNat * 5 + 0)).off]? with
    | none => rw [e2] at h0; cases h0
    | some y => rw [e2] at h0; cases y <;> cases h0
end
theorem cut50_len (l : List Int) : (cut50 l).length ≤ 50 := by unfold cut50; split <;> first | omega | (rw [List.length_take]; omega)
theorem cut50_same {l : List Int} (h : l.length ≤ 50) : cut50 l = l := by unfold cut50; rw [if_neg (by omega)]
theorem own_cut (kd fd s0 s1 : Int) (b0 : Bool) (A5 : Option Addr) (c5 : Nat) (l5 : List Int) (s3 : Int) (A7 : Option Addr) (c7 : Nat) (l7 : List Int) (w : World) (hr5 : Kd.C (Kd.int .i64) w A5 l5.length l5) (hc5 : l5.length ≤ c5) (hr7 : Kd.C (Kd.int .i64) w A7 l7.length l7) (hc7 : l7.length ≤ c7) :
    Calls Try.prog 13 #[.agg #[.int .i64 kd, .int .i64 fd, .int .i64 s0, .int .u32 s1, .bool b0, .slice A5 l5.length c5, .int .i64 s3, .slice A7 l7.length c7]] w fun e w' => ∃ m5 m7 B5 d5 B7 d7, (m5 = cut50 l5 ∧ m7 = cut50 l7) ∧ m5.length ≤ 50 ∧ m7.length ≤ 50 ∧ e = .returned (.agg #[.int .i64 kd, .int .i64 fd, .int .i64 s0, .int .u32 s1, .bool b0, .slice B5 (m5 : List Int).length d5, .int .i64 s3, .slice B7 (m7 : List Int).length d7]) ∧ Kd.R (Kd.int .i64) 3 w' w.heap.size (fun _ => True) (.slice B5 m5.length d5) m5 ∧ Kd.R (Kd.int .i64) 3 w' w.heap.size (fun _ => True) (.slice B7 m7.length d7) m7 ∧ Below w.heap.size w w' := by
  refine (own_calls kd fd s0 s1 b0 A5 c5 l5 s3 A7 c7 l7 w hr5 hc5 hr7 hc7).mono ?_
  rintro e w' ⟨v5, v7, rfl, h5, h7, hb⟩
  obtain ⟨B5, d5, rfl⟩ := Kd.R_slice h5
  obtain ⟨B7, d7, rfl⟩ := Kd.R_slice h7
  exact ⟨cut50 l5, cut50 l7, B5, d5, B7, d7, ⟨rfl, rfl⟩, cut50_len _, cut50_len _, rfl, h5, h7, hb⟩
theorem own_same (kd fd s0 s1 : Int) (b0 : Bool) (A5 : Option Addr) (c5 : Nat) (l5 : List Int) (s3 : Int) (A7 : Option Addr) (c7 : Nat) (l7 : List Int) (w : World) (hr5 : Kd.C (Kd.int .i64) w A5 l5.length l5) (hc5 : l5.length ≤ c5) (hr7 : Kd.C (Kd.int .i64) w A7 l7.length l7) (hc7 : l7.length ≤ c7) (h5 : l5.length ≤ 50) (h7 : l7.length ≤ 50) :
    Calls Try.prog 13 #[.agg #[.int .i64 kd, .int .i64 fd, .int .i64 s0, .int .u32 s1, .bool b0, .slice A5 l5.length c5, .int .i64 s3, .slice A7 l7.length c7]] w fun e w' => ∃ B5 d5 B7 d7, e = .returned (.agg #[.int .i64 kd, .int .i64 fd, .int .i64 s0, .int .u32 s1, .bool b0, .slice B5 l5.length d5, .int .i64 s3, .slice B7 l7.length d7]) ∧ Kd.R (Kd.int .i64) 3 w' w.heap.size (fun _ => True) (.slice B5 l5.length d5) l5 ∧ Kd.R (Kd.int .i64) 3 w' w.heap.size (fun _ => True) (.slice B7 l7.length d7) l7 ∧ Below w.heap.size w w' := by
  refine (own_calls kd fd s0 s1 b0 A5 c5 l5 s3 A7 c7 l7 w hr5 hc5 hr7 hc7).mono ?_
  rintro e w' ⟨v5, v7, rfl, g5, g7, hb⟩
  rw [cut50_same h5] at g5; rw [cut50_same h7] at g7
  obtain ⟨B5, d5, rfl⟩ := Kd.R_slice g5
  obtain ⟨B7, d7, rfl⟩ := Kd.R_slice g7
  exact ⟨B5, d5, B7, d7, rfl, g5, g7, hb⟩
theorem RLimit_ok {w : World} {P : Nat → Prop} {ad : Addr} {c : Nat} {ss : List (Option Slot)} (hL : LV w P ad c (ls ss)) (hPN : ∀ k, P k → k < w.heap.size) (fd : Int) (hl : ss.length ≤ 64) (h0 : 0 ≤ fd) {s : Slot} (hs : ss[fd.toNat]? = some (some s)) (r : Int) (hr0 : 0 ≤ r) (hG : purlieuref13_Get.f 40 (ls ss) fd r = some 0) :
    Calls Try.prog 45 #[.slice (some ad) (ls ss).length c, .int .i64 fd, .int .u32 r] w fun e' w' => ∃ ad' c', e' = .returned (.tuple #[.slice (some ad') (ls (ss.set fd.toNat (some (limS s r)))).length c', .int .i64 0]) ∧ LV w' (fun k => (P k ∨ w.heap.size ≤ k)) ad' c' (ls (ss.set fd.toNat (some (limS s r)))) ∧ Below w.heap.size w w' := by
  unfold limS
  by_cases h28 : Go.bits .and .u32 r 268435456 = 0 <;> by_cases h9 : Go.bits .and .u32 r 512 = 0
  · rw [if_pos h28, if_pos h9]; exact RLimit_ff hL hPN fd hl h0 hs r hr0 hG h28 h9
  · rw [if_pos h28, if_neg h9]; exact RLimit_ft hL hPN fd hl h0 hs r hr0 hG h28 h9
  · rw [if_neg h28, if_pos h9]; exact RLimit_tf hL hPN fd hl h0 hs r hr0 hG h28 h9
  · rw [if_neg h28, if_neg h9]; exact RLimit_tt hL hPN fd hl h0 hs r hr0 hG h28 h9
theorem good_lim {s : Slot} {r : Int} (h : GoodS s) (hr : 0 ≤ r) : GoodS (limS s r) := ⟨h.pos, hr, by unfold limS; dsimp only; split <;> first | exact h.len | simp⟩
theorem good_can {s : Slot} (h : canS s = true) (h1 : 0 ≤ s.f1) (hl : s.f2.f1.length ≤ 50) : GoodS s := ⟨(canS_parts h).1, h1, by omega⟩
end Go.Proofs.Ytilfalpfanaanaa.PA

namespace Go.Proofs.Ytilfalpfanaanaa.PA
open Go.RowKit Go.Proofs.YtilfalpfanaanaaW.PrintWords Go.Proofs.YtilfalpfanaanaaW.PrintLast Go.Proofs.YtilfalpfanaanaaW.PrintMore Go.Proofs.Ytilfalpfanaanaa.Sx
set_option maxHeartbeats 8000000 in
set_option maxRecDepth 100000 in
theorem Does_set_bad {w : World} {b g p : Nat} {ok : Nat → Prop} {qs : List (Option Nat)} {ss : List (Option Slot)} {P : Nat → Prop} {ad : Addr} {c : Nat} (hI : DInv w b g p ok qs ss P ad c) (kd fd s0 s1 : Int) (b0 : Bool) (A5 : Option Addr) (c5 : Nat) (l5 : List Int) (s3 : Int) (A7 : Option Addr) (c7 : Nat) (l7 : List Int) (hr5 : Kd.C (Kd.int .i64) w A5 l5.length l5) (hc5 : l5.length ≤ c5) (hr7 : Kd.C (Kd.int .i64) w A7 l7.length l7) (hc7 : l7.length ≤ c7) (hk : kd = 1) (hcan : canS (⟨s0, s1, ⟨b0, cut50 l5⟩, s3⟩ : Slot) = false) : Calls Try.prog 19 #[.pointer (some ⟨g, 0, none⟩), .slice (some ad) ((ls ss).length) c, .agg #[.int .i64 kd, .int .i64 fd, .int .i64 s0, .int .u32 s1, .bool b0, .slice A5 l5.length c5, .int .i64 s3, .slice A7 l7.length c7]] w (Post w b g p ok ss.length P) := by
 have HT := Aside0.mk hI.T
 have HL := Aside0.mk hI.L
 have hll := ls_len ss
 have hfew := hI.few
 have hqs := hI.T.len
 refine s_enter (n := 233) (L := [(0, .pointer (some ⟨g, 0, none⟩)), (1, .slice (some ad) ((ls ss).length) c), (2, .agg #[.int .i64 kd, .int .i64 fd, .int .i64 s0, .int .u32 s1, .bool b0, .slice A5 l5.length c5, .int .i64 s3, .slice A7 l7.length c7])]) Try.func19 rfl rfl rfl rfl ?_
 have S1 := St.start w (ok)
 refine s_seq ?_
 refine s_region ?_
 refine qo ?_
 refine e_box (cs := [.int .i64 kd, .int .i64 fd, .int .i64 s0, .int .u32 s1, .bool b0, .slice A5 l5.length c5, .int .i64 s3, .slice A7 l7.length c7]) S1 rfl rfl ?_
 intro g2 w3 hg2 S4 B5
 replace HT := tb HT B5
 replace HL := vb HL B5
 refine qv (v := .slice none 0 0) (r_assign rfl) ?_
 refine qv (v := .bool false) (r_assign rfl) ?_
 refine q_nil ?_
 refine x_seq ?_
 refine s_seq ?_
 refine s_region ?_
 refine qv (v := .agg #[.int .i64 kd, .int .i64 fd, .int .i64 s0, .int .u32 s1, .bool b0, .slice A5 l5.length c5, .int .i64 s3, .slice A7 l7.length c7]) (r_loadN (vs := [.int .i64 kd, .int .i64 fd, .int .i64 s0, .int .u32 s1, .bool b0, .slice A5 l5.length c5, .int .i64 s3, .slice A7 l7.length c7]) sz_30 rfl (S4.blk 0 rfl) rfl rfl) ?_
 refine qo ?_
 refine e_call (args := [.agg #[.int .i64 kd, .int .i64 fd, .int .i64 s0, .int .u32 s1, .bool b0, .slice A5 l5.length c5, .int .i64 s3, .slice A7 l7.length c7]]) Try.func13 (by kernel_rfl) rfl rfl ?_
 refine (own_cut kd fd s0 s1 b0 A5 c5 l5 s3 A7 c7 l7 _ (Kd.C_below hr5 B5) hc5 (Kd.C_below hr7 B5) hc7).mono ?_
 rintro e w6 ⟨m5, m7, Ba5, da5, Ba7, da7, ⟨hm5, hm7⟩, hl5, hl7, rfl, ho5, ho7, hb⟩
 refine ⟨_, rfl, ?_⟩
 have B7 := hb
 have S8 := S4.call B7
 replace HT := tb HT B7
 replace HL := vb HL B7
 have HA5 := Aside0.mk ho5
 have HA7 := Aside0.mk ho7
 clear ho5 ho7
 have HBa := S4.ext.size
 rw [← hm5] at hcan
 refine qo ?_
 refine e_store (vs := [.int .i64 kd, .int .i64 fd, .int .i64 s0, .int .u32 s1, .bool b0, .slice Ba5 m5.length da5, .int .i64 s3, .slice Ba7 m7.length da7]) (cs' := [.int .i64 kd, .int .i64 fd, .int .i64 s0, .int .u32 s1, .bool b0, .slice Ba5 m5.length da5, .int .i64 s3, .slice Ba7 m7.length da7]) S8 rfl rfl rfl rfl sz_30 0 rfl (.inl rfl) rfl rfl rfl ?_
 intro w9 S10 E11
 replace HA5 := rx HA5 E11 (S8.blk 0 rfl)
 replace HA7 := rx HA7 E11 (S8.blk 0 rfl)
 replace HT := Aside0.mk (HT.out.move (fun k_ hk_ hl_ => E11.block k_ hl_ (fun e_ => by have o_ := S8.own _ (List.mem_of_getElem? (i := 0) rfl) rfl; try dsimp only at o_ e_; have b_ := hI.okN k_ hk_; omega)))
 replace HL := Aside0.mk (Kd.V_step HL.out (fun k_ hk_ hl_ => E11.block k_ hl_ (fun e_ => by have o_ := S8.own _ (List.mem_of_getElem? (i := 0) rfl) rfl; try dsimp only at o_ e_; have b_ := hI.PN k_ hk_; omega)))
 refine q_nil ?_
 refine x_seq ?_
 refine s_seq ?_
 refine s_region ?_
 refine qv (v := .agg #[.int .i64 kd, .int .i64 fd, .int .i64 s0, .int .u32 s1, .bool b0, .slice Ba5 m5.length da5, .int .i64 s3, .slice Ba7 m7.length da7]) (r_loadN (vs := [.int .i64 kd, .int .i64 fd, .int .i64 s0, .int .u32 s1, .bool b0, .slice Ba5 m5.length da5, .int .i64 s3, .slice Ba7 m7.length da7]) sz_30 rfl (S10.blk 0 rfl) rfl rfl) ?_
 refine qo ?_
 refine e_call (args := [.agg #[.int .i64 kd, .int .i64 fd, .int .i64 s0, .int .u32 s1, .bool b0, .slice Ba5 m5.length da5, .int .i64 s3, .slice Ba7 m7.length da7]]) Try.func13 (by kernel_rfl) rfl rfl ?_
 refine (own_same kd fd s0 s1 b0 Ba5 da5 m5 s3 Ba7 da7 m7 _ (R_C HA5.out).2 (R_C HA5.out).1 (R_C HA7.out).2 (R_C HA7.out).1 hl5 hl7).mono ?_
 rintro e w12 ⟨Be5, de5, Be7, de7, rfl, ho5, ho7, hb⟩
 refine ⟨_, rfl, ?_⟩
 have B13 := hb
 have S14 := S10.call B13
 replace HA5 := rb HA5 B13
 replace HA7 := rb HA7 B13
 replace HT := tb HT B13
 replace HL := vb HL B13
 have HE5 := Aside0.mk ho5
 have HE7 := Aside0.mk ho7
 clear ho5 ho7
 refine qo ?_
 refine e_alloc S14 zro_30 ?_
 intro g15 w16 hg15 S17 B18
 replace HA5 := rb HA5 B18
 replace HA7 := rb HA7 B18
 replace HE5 := rb HE5 B18
 replace HE7 := rb HE7 B18
 replace HT := tb HT B18
 replace HL := vb HL B18
 refine qo ?_
 refine e_store (vs := [.int .i64 kd, .int .i64 fd, .int .i64 s0, .int .u32 s1, .bool b0, .slice Be5 m5.length de5, .int .i64 s3, .slice Be7 m7.length de7]) (cs' := [.int .i64 kd, .int .i64 fd, .int .i64 s0, .int .u32 s1, .bool b0, .slice Be5 m5.length de5, .int .i64 s3, .slice Be7 m7.length de7]) S17 rfl rfl rfl rfl sz_30 0 rfl (.inl rfl) rfl rfl rfl ?_
 intro w19 S20 E21
 replace HA5 := rx HA5 E21 (S17.blk 0 rfl)
 replace HA7 := rx HA7 E21 (S17.blk 0 rfl)
 replace HE5 := rx HE5 E21 (S17.blk 0 rfl)
 replace HE7 := rx HE7 E21 (S17.blk 0 rfl)
 replace HT := Aside0.mk (HT.out.move (fun k_ hk_ hl_ => E21.block k_ hl_ (fun e_ => by have o_ := S17.own _ (List.mem_of_getElem? (i := 0) rfl) rfl; try dsimp only at o_ e_; have b_ := hI.okN k_ hk_; omega)))
 replace HL := Aside0.mk (Kd.V_step HL.out (fun k_ hk_ hl_ => E21.block k_ hl_ (fun e_ => by have o_ := S17.own _ (List.mem_of_getElem? (i := 0) rfl) rfl; try dsimp only at o_ e_; have b_ := hI.PN k_ hk_; omega)))
 refine q_nil ?_
 refine x_seq ?_
 refine s_seq ?_
 refine s_seq ?_
 refine s_region ?_
 refine qv (v := .pointer (some ⟨g2, 0, none⟩)) (r_field fld_30_0 rfl rfl) ?_
 refine qv (v := .int .i64 kd) (r_load1 sz_3 rfl (S20.cell 1 rfl rfl)) ?_
 refine q_nil ?_
 refine x_seq ?_
 refine s_block ?_
 refine s_seq ?_
 refine s_region ?_
 refine qv (v := .bool true) (r_eql rfl rfl (beq_t (by omega))) ?_
 refine qv (v := .bool true) (r_assign rfl) ?_
 refine q_nil ?_
 refine x_seq ?_
 refine s_true rfl ?_
 refine s_seq ?_
 refine s_region ?_
 refine qv (v := .pointer (some ⟨g, 0, none⟩)) (r_move rfl) ?_
 refine qv (v := .pointer (some ⟨g15, 1, none⟩)) (r_field fld_30_1 rfl rfl) ?_
 refine qv (v := .int .i64 fd) (r_load1 sz_3 rfl (S20.cell 0 rfl rfl)) ?_
 refine qv (v := .pointer (some ⟨g15, 2, none⟩)) (r_field fld_30_2 rfl rfl) ?_
 refine qv (v := .agg #[.int .i64 s0, .int .u32 s1, .bool b0, .slice Be5 m5.length de5, .int .i64 s3]) (r_loadN (vs := [.int .i64 s0, .int .u32 s1, .bool b0, .slice Be5 m5.length de5, .int .i64 s3]) sz_28 rfl (S20.blk 0 rfl) rfl rfl) ?_
 refine qo ?_
 refine e_call (args := [.pointer (some ⟨g, 0, none⟩), .int .i64 fd, .agg #[.int .i64 s0, .int .u32 s1, .bool b0, .slice Be5 m5.length de5, .int .i64 s3]]) Try.func29 (by kernel_rfl) rfl rfl ?_
 refine (Set_bad g fd (⟨s0, s1, ⟨b0, m5⟩, s3⟩ : Slot) Be5 de5 (R_C HE5.out).2 (R_C HE5.out).1 200 (by rw [wcanS (⟨s0, s1, ⟨b0, m5⟩, s3⟩ : Slot) hl5, hcan])).mono ?_
 rintro e w22 ⟨rfl, hb⟩
 refine ⟨_, rfl, ?_⟩
 have B23 := hb
 have S24 := S20.call B23
 replace HA5 := rb HA5 B23
 replace HA7 := rb HA7 B23
 replace HE5 := rb HE5 B23
 replace HE7 := rb HE7 B23
 replace HT := tb HT B23
 replace HL := vb HL B23
 refine qv (v := .tuple #[.agg #[.int .i64 0, .int .u32 0, .bool false, .slice none 0 0, .int .i64 0], .bool false, .int .i64 22]) (r_move rfl) ?_
 refine qv (v := .agg #[.int .i64 0, .int .u32 0, .bool false, .slice none 0 0, .int .i64 0]) (r_extract rfl rfl) ?_
 refine qv (v := .bool false) (r_extract rfl rfl) ?_
 refine qv (v := .int .i64 22) (r_extract rfl rfl) ?_
 refine qo ?_
 refine e_alloc S24 zro_28 ?_
 intro g25 w26 hg25 S27 B28
 replace HA5 := rb HA5 B28
 replace HA7 := rb HA7 B28
 replace HE5 := rb HE5 B28
 replace HE7 := rb HE7 B28
 replace HT := tb HT B28
 replace HL := vb HL B28
 refine qo ?_
 refine e_store (vs := [.int .i64 0, .int .u32 0, .bool false, .slice none 0 0, .int .i64 0]) (cs' := [.int .i64 0, .int .u32 0, .bool false, .slice none 0 0, .int .i64 0]) S27 rfl rfl rfl rfl sz_28 0 rfl (.inl rfl) rfl rfl rfl ?_
 intro w29 S30 E31
 replace HA5 := rx HA5 E31 (S27.blk 0 rfl)
 replace HA7 := rx HA7 E31 (S27.blk 0 rfl)
 replace HE5 := rx HE5 E31 (S27.blk 0 rfl)
 replace HE7 := rx HE7 E31 (S27.blk 0 rfl)
 replace HT := Aside0.mk (HT.out.move (fun k_ hk_ hl_ => E31.block k_ hl_ (fun e_ => by have o_ := S27.own _ (List.mem_of_getElem? (i := 0) rfl) rfl; try dsimp only at o_ e_; have b_ := hI.okN k_ hk_; omega)))
 replace HL := Aside0.mk (Kd.V_step HL.out (fun k_ hk_ hl_ => E31.block k_ hl_ (fun e_ => by have o_ := S27.own _ (List.mem_of_getElem? (i := 0) rfl) rfl; try dsimp only at o_ e_; have b_ := hI.PN k_ hk_; omega)))
 refine qv (v := .bool false) (r_assign rfl) ?_
 refine qv (v := .int .i64 22) (r_assign rfl) ?_
 refine q_nil ?_
 refine x_seq ?_
 refine s_seq ?_
 refine s_seq ?_
 refine s_region ?_
 refine qv (v := .pointer (some ⟨g2, 2, none⟩)) (r_field fld_30_2 rfl rfl) ?_
 refine qv (v := .agg #[.int .i64 s0, .int .u32 s1, .bool b0, .slice Ba5 m5.length da5, .int .i64 s3]) (r_loadN (vs := [.int .i64 s0, .int .u32 s1, .bool b0, .slice Ba5 m5.length da5, .int .i64 s3]) sz_28 rfl (S30.blk 2 rfl) rfl rfl) ?_
 refine qo ?_
 refine e_call (args := [.agg #[.int .i64 s0, .int .u32 s1, .bool b0, .slice Ba5 m5.length da5, .int .i64 s3]]) Try.func9 (by kernel_rfl) rfl rfl ?_
 refine (purlieuref13_Can.calls 200 s0 s1 b0 Ba5 da5 m5 s3 false _ (R_C HA5.out).2 (R_C HA5.out).1 (by rw [rcanS (⟨s0, s1, ⟨b0, m5⟩, s3⟩ : Slot) hl5, hcan])).mono ?_
 rintro e w32 ⟨rfl, hb⟩
 refine ⟨_, rfl, ?_⟩
 have B33 := hb
 have S34 := S30.call B33
 replace HA5 := rb HA5 B33
 replace HA7 := rb HA7 B33
 replace HE5 := rb HE5 B33
 replace HE7 := rb HE7 B33
 replace HT := tb HT B33
 replace HL := vb HL B33
 refine qv (v := .bool true) (r_not rfl rfl) ?_
 refine q_nil ?_
 refine x_seq ?_
 refine s_true rfl ?_
 refine s_seq ?_
 refine s_region ?_
 refine qv (v := .slice (some ad) ((ls ss).length) c) (r_move rfl) ?_
 refine qv (v := .bool false) (r_move rfl) ?_
 refine qv (v := .bool true) (r_not rfl rfl) ?_
 refine qv (v := .bool true) (r_move rfl) ?_
 refine q_val (v := .int .i64 22) (wan rfl rfl rfl rfl) rfl (r_move rfl) ?_
 refine q_val (v := .bool true) (wan rfl rfl rfl rfl) rfl (r_eql rfl rfl (beq_t (by omega))) ?_
 refine qv (v := .bool true) (r_pick_t rfl rfl) ?_
 refine qv (v := .slice (some ad) ((ls ss).length) c) (r_assign rfl) ?_
 refine qv (v := .bool true) (r_assign rfl) ?_
 refine q_nil ?_
 refine x_seq ?_
 refine s_ret ?_
 refine x_seq_ret ?_
 refine x_blk_ret ?_
 refine x_seq_ret ?_
 refine t_ret2 (v := .slice (some ad) ((ls ss).length) c) (v' := .bool true) rfl rfl rfl ?_
 exact post_same hI S34.ext HT.out HL.out
set_option maxHeartbeats 8000000 in
set_option maxRecDepth 100000 in
theorem Does_set_low {w : World} {b g p : Nat} {ok : Nat → Prop} {qs : List (Option Nat)} {ss : List (Option Slot)} {P : Nat → Prop} {ad : Addr} {c : Nat} (hI : DInv w b g p ok qs ss P ad c) (kd fd s0 s1 : Int) (b0 : Bool) (A5 : Option Addr) (c5 : Nat) (l5 : List Int) (s3 : Int) (A7 : Option Addr) (c7 : Nat) (l7 : List Int) (hr5 : Kd.C (Kd.int .i64) w A5 l5.length l5) (hc5 : l5.length ≤ c5) (hr7 : Kd.C (Kd.int .i64) w A7 l7.length l7) (hc7 : l7.length ≤ c7) (hk : kd = 1) (hcan : canS (⟨s0, s1, ⟨b0, cut50 l5⟩, s3⟩ : Slot) = true) (hf : fd < 0) : Calls Try.prog 19 #[.pointer (some ⟨g, 0, none⟩), .slice (some ad) ((ls ss).length) c, .agg #[.int .i64 kd, .int .i64 fd, .int .i64 s0, .int .u32 s1, .bool b0, .slice A5 l5.length c5, .int .i64 s3, .slice A7 l7.length c7]] w (Post w b g p ok ss.length P) := by
 have HT := Aside0.mk hI.T
 have HL := Aside0.mk hI.L
 have hll := ls_len ss
 have hfew := hI.few
 have hqs := hI.T.len
 refine s_enter (n := 233) (L := [(0, .pointer (some ⟨g, 0, none⟩)), (1, .slice (some ad) ((ls ss).length) c), (2, .agg #[.int .i64 kd, .int .i64 fd, .int .i64 s0, .int .u32 s1, .bool b0, .slice A5 l5.length c5, .int .i64 s3, .slice A7 l7.length c7])]) Try.func19 rfl rfl rfl rfl ?_
 have S1 := St.start w (ok)
 refine s_seq ?_
 refine s_region ?_
 refine qo ?_
 refine e_box (cs := [.int .i64 kd, .int .i64 fd, .int .i64 s0, .int .u32 s1, .bool b0, .slice A5 l5.length c5, .int .i64 s3, .slice A7 l7.length c7]) S1 rfl rfl ?_
 intro g2 w3 hg2 S4 B5
 replace HT := tb HT B5
 replace HL := vb HL B5
 refine qv (v := .slice none 0 0) (r_assign rfl) ?_
 refine qv (v := .bool false) (r_assign rfl) ?_
 refine q_nil ?_
 refine x_seq ?_
 refine s_seq ?_
 refine s_region ?_
 refine qv (v := .agg #[.int .i64 kd, .int .i64 fd, .int .i64 s0, .int .u32 s1, .bool b0, .slice A5 l5.length c5, .int .i64 s3, .slice A7 l7.length c7]) (r_loadN (vs := [.int .i64 kd, .int .i64 fd, .int .i64 s0, .int .u32 s1, .bool b0, .slice A5 l5.length c5, .int .i64 s3, .slice A7 l7.length c7]) sz_30 rfl (S4.blk 0 rfl) rfl rfl) ?_
 refine qo ?_
 refine e_call (args := [.agg #[.int .i64 kd, .int .i64 fd, .int .i64 s0, .int .u32 s1, .bool b0, .slice A5 l5.length c5, .int .i64 s3, .slice A7 l7.length c7]]) Try.func13 (by kernel_rfl) rfl rfl ?_
 refine (own_cut kd fd s0 s1 b0 A5 c5 l5 s3 A7 c7 l7 _ (Kd.C_below hr5 B5) hc5 (Kd.C_below hr7 B5) hc7).mono ?_
 rintro e w6 ⟨m5, m7, Ba5, da5, Ba7, da7, ⟨hm5, hm7⟩, hl5, hl7, rfl, ho5, ho7, hb⟩
 refine ⟨_, rfl, ?_⟩
 have B7 := hb
 have S8 := S4.call B7
 replace HT := tb HT B7
 replace HL := vb HL B7
 have HA5 := Aside0.mk ho5
 have HA7 := Aside0.mk ho7
 clear ho5 ho7
 have HBa := S4.ext.size
 rw [← hm5] at hcan
 refine qo ?_
 refine e_store (vs := [.int .i64 kd, .int .i64 fd, .int .i64 s0, .int .u32 s1, .bool b0, .slice Ba5 m5.length da5, .int .i64 s3, .slice Ba7 m7.length da7]) (cs' := [.int .i64 kd, .int .i64 fd, .int .i64 s0, .int .u32 s1, .bool b0, .slice Ba5 m5.length da5, .int .i64 s3, .slice Ba7 m7.length da7]) S8 rfl rfl rfl rfl sz_30 0 rfl (.inl rfl) rfl rfl rfl ?_
 intro w9 S10 E11
 replace HA5 := rx HA5 E11 (S8.blk 0 rfl)
 replace HA7 := rx HA7 E11 (S8.blk 0 rfl)
 replace HT := Aside0.mk (HT.out.move (fun k_ hk_ hl_ => E11.block k_ hl_ (fun e_ => by have o_ := S8.own _ (List.mem_of_getElem? (i := 0) rfl) rfl; try dsimp only at o_ e_; have b_ := hI.okN k_ hk_; omega)))
 replace HL := Aside0.mk (Kd.V_step HL.out (fun k_ hk_ hl_ => E11.block k_ hl_ (fun e_ => by have o_ := S8.own _ (List.mem_of_getElem? (i := 0) rfl) rfl; try dsimp only at o_ e_; have b_ := hI.PN k_ hk_; omega)))
 refine q_nil ?_
 refine x_seq ?_
 refine s_seq ?_
 refine s_region ?_
 refine qv (v := .agg #[.int .i64 kd, .int .i64 fd, .int .i64 s0, .int .u32 s1, .bool b0, .slice Ba5 m5.length da5, .int .i64 s3, .slice Ba7 m7.length da7]) (r_loadN (vs := [.int .i64 kd, .int .i64 fd, .int .i64 s0, .int .u32 s1, .bool b0, .slice Ba5 m5.length da5, .int .i64 s3, .slice Ba7 m7.length da7]) sz_30 rfl (S10.blk 0 rfl) rfl rfl) ?_
 refine qo ?_
 refine e_call (args := [.agg #[.int .i64 kd, .int .i64 fd, .int .i64 s0, .int .u32 s1, .bool b0, .slice Ba5 m5.length da5, .int .i64 s3, .slice Ba7 m7.length da7]]) Try.func13 (by kernel_rfl) rfl rfl ?_
 refine (own_same kd fd s0 s1 b0 Ba5 da5 m5 s3 Ba7 da7 m7 _ (R_C HA5.out).2 (R_C HA5.out).1 (R_C HA7.out).2 (R_C HA7.out).1 hl5 hl7).mono ?_
 rintro e w12 ⟨Be5, de5, Be7, de7, rfl, ho5, ho7, hb⟩
 refine ⟨_, rfl, ?_⟩
 have B13 := hb
 have S14 := S10.call B13
 replace HA5 := rb HA5 B13
 replace HA7 := rb HA7 B13
 replace HT := tb HT B13
 replace HL := vb HL B13
 have HE5 := Aside0.mk ho5
 have HE7 := Aside0.mk ho7
 clear ho5 ho7
 refine qo ?_
 refine e_alloc S14 zro_30 ?_
 intro g15 w16 hg15 S17 B18
 replace HA5 := rb HA5 B18
 replace HA7 := rb HA7 B18
 replace HE5 := rb HE5 B18
 replace HE7 := rb HE7 B18
 replace HT := tb HT B18
 replace HL := vb HL B18
 refine qo ?_
 refine e_store (vs := [.int .i64 kd, .int .i64 fd, .int .i64 s0, .int .u32 s1, .bool b0, .slice Be5 m5.length de5, .int .i64 s3, .slice Be7 m7.length de7]) (cs' := [.int .i64 kd, .int .i64 fd, .int .i64 s0, .int .u32 s1, .bool b0, .slice Be5 m5.length de5, .int .i64 s3, .slice Be7 m7.length de7]) S17 rfl rfl rfl rfl sz_30 0 rfl (.inl rfl) rfl rfl rfl ?_
 intro w19 S20 E21
 replace HA5 := rx HA5 E21 (S17.blk 0 rfl)
 replace HA7 := rx HA7 E21 (S17.blk 0 rfl)
 replace HE5 := rx HE5 E21 (S17.blk 0 rfl)
 replace HE7 := rx HE7 E21 (S17.blk 0 rfl)
 replace HT := Aside0.mk (HT.out.move (fun k_ hk_ hl_ => E21.block k_ hl_ (fun e_ => by have o_ := S17.own _ (List.mem_of_getElem? (i := 0) rfl) rfl; try dsimp only at o_ e_; have b_ := hI.okN k_ hk_; omega)))
 replace HL := Aside0.mk (Kd.V_step HL.out (fun k_ hk_ hl_ => E21.block k_ hl_ (fun e_ => by have o_ := S17.own _ (List.mem_of_getElem? (i := 0) rfl) rfl; try dsimp only at o_ e_; have b_ := hI.PN k_ hk_; omega)))
 refine q_nil ?_
 refine x_seq ?_
 refine s_seq ?_
 refine s_seq ?_
 refine s_region ?_
 refine qv (v := .pointer (some ⟨g2, 0, none⟩)) (r_field fld_30_0 rfl rfl) ?_
 refine qv (v := .int .i64 kd) (r_load1 sz_3 rfl (S20.cell 1 rfl rfl)) ?_
 refine q_nil ?_
 refine x_seq ?_
 refine s_block ?_
 refine s_seq ?_
 refine s_region ?_
 refine qv (v := .bool true) (r_eql rfl rfl (beq_t (by omega))) ?_
 refine qv (v := .bool true) (r_assign rfl) ?_
 refine q_nil ?_
 refine x_seq ?_
 refine s_true rfl ?_
 refine s_seq ?_
 refine s_region ?_
 refine qv (v := .pointer (some ⟨g, 0, none⟩)) (r_move rfl) ?_
 refine qv (v := .pointer (some ⟨g15, 1, none⟩)) (r_field fld_30_1 rfl rfl) ?_
 refine qv (v := .int .i64 fd) (r_load1 sz_3 rfl (S20.cell 0 rfl rfl)) ?_
 refine qv (v := .pointer (some ⟨g15, 2, none⟩)) (r_field fld_30_2 rfl rfl) ?_
 refine qv (v := .agg #[.int .i64 s0, .int .u32 s1, .bool b0, .slice Be5 m5.length de5, .int .i64 s3]) (r_loadN (vs := [.int .i64 s0, .int .u32 s1, .bool b0, .slice Be5 m5.length de5, .int .i64 s3]) sz_28 rfl (S20.blk 0 rfl) rfl rfl) ?_
 refine qo ?_
 refine e_call (args := [.pointer (some ⟨g, 0, none⟩), .int .i64 fd, .agg #[.int .i64 s0, .int .u32 s1, .bool b0, .slice Be5 m5.length de5, .int .i64 s3]]) Try.func29 (by kernel_rfl) rfl rfl ?_
 refine (Set_low g fd hf (⟨s0, s1, ⟨b0, m5⟩, s3⟩ : Slot) Be5 de5 (R_C HE5.out).2 (R_C HE5.out).1 200 (by rw [wcanS (⟨s0, s1, ⟨b0, m5⟩, s3⟩ : Slot) hl5, hcan])).mono ?_
 rintro e w22 ⟨rfl, hb⟩
 refine ⟨_, rfl, ?_⟩
 have B23 := hb
 have S24 := S20.call B23
 replace HA5 := rb HA5 B23
 replace HA7 := rb HA7 B23
 replace HE5 := rb HE5 B23
 replace HE7 := rb HE7 B23
 replace HT := tb HT B23
 replace HL := vb HL B23
 refine qv (v := .tuple #[.agg #[.int .i64 0, .int .u32 0, .bool false, .slice none 0 0, .int .i64 0], .bool false, .int .i64 9]) (r_move rfl) ?_
 refine qv (v := .agg #[.int .i64 0, .int .u32 0, .bool false, .slice none 0 0, .int .i64 0]) (r_extract rfl rfl) ?_
 refine qv (v := .bool false) (r_extract rfl rfl) ?_
 refine qv (v := .int .i64 9) (r_extract rfl rfl) ?_
 refine qo ?_
 refine e_alloc S24 zro_28 ?_
 intro g25 w26 hg25 S27 B28
 replace HA5 := rb HA5 B28
 replace HA7 := rb HA7 B28
 replace HE5 := rb HE5 B28
 replace HE7 := rb HE7 B28
 replace HT := tb HT B28
 replace HL := vb HL B28
 refine qo ?_
 refine e_store (vs := [.int .i64 0, .int .u32 0, .bool false, .slice none 0 0, .int .i64 0]) (cs' := [.int .i64 0, .int .u32 0, .bool false, .slice none 0 0, .int .i64 0]) S27 rfl rfl rfl rfl sz_28 0 rfl (.inl rfl) rfl rfl rfl ?_
 intro w29 S30 E31
 replace HA5 := rx HA5 E31 (S27.blk 0 rfl)
 replace HA7 := rx HA7 E31 (S27.blk 0 rfl)
 replace HE5 := rx HE5 E31 (S27.blk 0 rfl)
 replace HE7 := rx HE7 E31 (S27.blk 0 rfl)
 replace HT := Aside0.mk (HT.out.move (fun k_ hk_ hl_ => E31.block k_ hl_ (fun e_ => by have o_ := S27.own _ (List.mem_of_getElem? (i := 0) rfl) rfl; try dsimp only at o_ e_; have b_ := hI.okN k_ hk_; omega)))
 replace HL := Aside0.mk (Kd.V_step HL.out (fun k_ hk_ hl_ => E31.block k_ hl_ (fun e_ => by have o_ := S27.own _ (List.mem_of_getElem? (i := 0) rfl) rfl; try dsimp only at o_ e_; have b_ := hI.PN k_ hk_; omega)))
 refine qv (v := .bool false) (r_assign rfl) ?_
 refine qv (v := .int .i64 9) (r_assign rfl) ?_
 refine q_nil ?_
 refine x_seq ?_
 refine s_seq ?_
 refine s_seq ?_
 refine s_region ?_
 refine qv (v := .pointer (some ⟨g2, 2, none⟩)) (r_field fld_30_2 rfl rfl) ?_
 refine qv (v := .agg #[.int .i64 s0, .int .u32 s1, .bool b0, .slice Ba5 m5.length da5, .int .i64 s3]) (r_loadN (vs := [.int .i64 s0, .int .u32 s1, .bool b0, .slice Ba5 m5.length da5, .int .i64 s3]) sz_28 rfl (S30.blk 2 rfl) rfl rfl) ?_
 refine qo ?_
 refine e_call (args := [.agg #[.int .i64 s0, .int .u32 s1, .bool b0, .slice Ba5 m5.length da5, .int .i64 s3]]) Try.func9 (by kernel_rfl) rfl rfl ?_
 refine (purlieuref13_Can.calls 200 s0 s1 b0 Ba5 da5 m5 s3 true _ (R_C HA5.out).2 (R_C HA5.out).1 (by rw [rcanS (⟨s0, s1, ⟨b0, m5⟩, s3⟩ : Slot) hl5, hcan])).mono ?_
 rintro e w32 ⟨rfl, hb⟩
 refine ⟨_, rfl, ?_⟩
 have B33 := hb
 have S34 := S30.call B33
 replace HA5 := rb HA5 B33
 replace HA7 := rb HA7 B33
 replace HE5 := rb HE5 B33
 replace HE7 := rb HE7 B33
 replace HT := tb HT B33
 replace HL := vb HL B33
 refine qv (v := .bool false) (r_not rfl rfl) ?_
 refine q_nil ?_
 refine x_seq ?_
 refine s_false rfl ?_
 refine s_skip ?_
 refine x_seq ?_
 refine s_seq ?_
 refine s_seq ?_
 refine s_region ?_
 refine qv (v := .pointer (some ⟨g2, 1, none⟩)) (r_field fld_30_1 rfl rfl) ?_
 refine qv (v := .int .i64 fd) (r_load1 sz_3 rfl (S34.cell 2 rfl rfl)) ?_
 refine qv (v := .bool true) (r_lss rfl rfl (decide_eq_true (by omega))) ?_
 refine qv (v := .bool true) (r_move rfl) ?_
 refine q_skip (unwan rfl rfl rfl rfl rfl) rfl ?_
 refine q_skip (unwan rfl rfl rfl rfl rfl) rfl ?_
 refine q_skip (unwan rfl rfl rfl rfl rfl) rfl ?_
 refine q_skip (unwan rfl rfl rfl rfl rfl) rfl ?_
 refine q_skip (unwan rfl rfl rfl rfl rfl) rfl ?_
 refine qv (v := .bool true) (r_pick_t rfl rfl) ?_
 refine q_nil ?_
 refine x_seq ?_
 refine s_true rfl ?_
 refine s_seq ?_
 refine s_region ?_
 refine qv (v := .slice (some ad) ((ls ss).length) c) (r_move rfl) ?_
 refine qv (v := .bool false) (r_move rfl) ?_
 refine qv (v := .bool true) (r_not rfl rfl) ?_
 refine qv (v := .bool true) (r_move rfl) ?_
 refine q_val (v := .int .i64 9) (wan rfl rfl rfl rfl) rfl (r_move rfl) ?_
 refine q_val (v := .bool true) (wan rfl rfl rfl rfl) rfl (r_eql rfl rfl (beq_t (by omega))) ?_
 refine qv (v := .bool true) (r_pick_t rfl rfl) ?_
 refine qv (v := .slice (some ad) ((ls ss).length) c) (r_assign rfl) ?_
 refine qv (v := .bool true) (r_assign rfl) ?_
 refine q_nil ?_
 refine x_seq ?_
 refine s_ret ?_
 refine x_seq_ret ?_
 refine x_blk_ret ?_
 refine x_seq_ret ?_
 refine t_ret2 (v := .slice (some ad) ((ls ss).length) c) (v' := .bool true) rfl rfl rfl ?_
 exact post_same hI S34.ext HT.out HL.out
set_option maxHeartbeats 8000000 in
set_option maxRecDepth 100000 in
theorem Does_set_high {w : World} {b g p : Nat} {ok : Nat → Prop} {qs : List (Option Nat)} {ss : List (Option Slot)} {P : Nat → Prop} {ad : Addr} {c : Nat} (hI : DInv w b g p ok qs ss P ad c) (kd fd s0 s1 : Int) (b0 : Bool) (A5 : Option Addr) (c5 : Nat) (l5 : List Int) (s3 : Int) (A7 : Option Addr) (c7 : Nat) (l7 : List Int) (hr5 : Kd.C (Kd.int .i64) w A5 l5.length l5) (hc5 : l5.length ≤ c5) (hr7 : Kd.C (Kd.int .i64) w A7 l7.length l7) (hc7 : l7.length ≤ c7) (hk : kd = 1) (hcan : canS (⟨s0, s1, ⟨b0, cut50 l5⟩, s3⟩ : Slot) = true) (h0 : 0 ≤ fd) (hf : (ss.length : Int) ≤ fd) : Calls Try.prog 19 #[.pointer (some ⟨g, 0, none⟩), .slice (some ad) ((ls ss).length) c, .agg #[.int .i64 kd, .int .i64 fd, .int .i64 s0, .int .u32 s1, .bool b0, .slice A5 l5.length c5, .int .i64 s3, .slice A7 l7.length c7]] w (Post w b g p ok ss.length P) := by
 have HT := Aside0.mk hI.T
 have HL := Aside0.mk hI.L
 have hll := ls_len ss
 have hfew := hI.few
 have hqs := hI.T.len
 refine s_enter (n := 233) (L := [(0, .pointer (some ⟨g, 0, none⟩)), (1, .slice (some ad) ((ls ss).length) c), (2, .agg #[.int .i64 kd, .int .i64 fd, .int .i64 s0, .int .u32 s1, .bool b0, .slice A5 l5.length c5, .int .i64 s3, .slice A7 l7.length c7])]) Try.func19 rfl rfl rfl rfl ?_
 have S1 := St.start w (ok)
 refine s_seq ?_
 refine s_region ?_
 refine qo ?_
 refine e_box (cs := [.int .i64 kd, .int .i64 fd, .int .i64 s0, .int .u32 s1, .bool b0, .slice A5 l5.length c5, .int .i64 s3, .slice A7 l7.length c7]) S1 rfl rfl ?_
 intro g2 w3 hg2 S4 B5
 replace HT := tb HT B5
 replace HL := vb HL B5
 refine qv (v := .slice none 0 0) (r_assign rfl) ?_
 refine qv (v := .bool false) (r_assign rfl) ?_
 refine q_nil ?_
 refine x_seq ?_
 refine s_seq ?_
 refine s_region ?_
 refine qv (v := .agg #[.int .i64 kd, .int .i64 fd, .int .i64 s0, .int .u32 s1, .bool b0, .slice A5 l5.length c5, .int .i64 s3, .slice A7 l7.length c7]) (r_loadN (vs := [.int .i64 kd, .int .i64 fd, .int .i64 s0, .int .u32 s1, .bool b0, .slice A5 l5.length c5, .int .i64 s3, .slice A7 l7.length c7]) sz_30 rfl (S4.blk 0 rfl) rfl rfl) ?_
 refine qo ?_
 refine e_call (args := [.agg #[.int .i64 kd, .int .i64 fd, .int .i64 s0, .int .u32 s1, .bool b0, .slice A5 l5.length c5, .int .i64 s3, .slice A7 l7.length c7]]) Try.func13 (by kernel_rfl) rfl rfl ?_
 refine (own_cut kd fd s0 s1 b0 A5 c5 l5 s3 A7 c7 l7 _ (Kd.C_below hr5 B5) hc5 (Kd.C_below hr7 B5) hc7).mono ?_
 rintro e w6 ⟨m5, m7, Ba5, da5, Ba7, da7, ⟨hm5, hm7⟩, hl5, hl7, rfl, ho5, ho7, hb⟩
 refine ⟨_, rfl, ?_⟩
 have B7 := hb
 have S8 := S4.call B7
 replace HT := tb HT B7
 replace HL := vb HL B7
 have HA5 := Aside0.mk ho5
 have HA7 := Aside0.mk ho7
 clear ho5 ho7
 have HBa := S4.ext.size
 rw [← hm5] at hcan
 refine qo ?_
 refine e_store (vs := [.int .i64 kd, .int .i64 fd, .int .i64 s0, .int .u32 s1, .bool b0, .slice Ba5 m5.length da5, .int .i64 s3, .slice Ba7 m7.length da7]) (cs' := [.int .i64 kd, .int .i64 fd, .int .i64 s0, .int .u32 s1, .bool b0, .slice Ba5 m5.length da5, .int .i64 s3, .slice Ba7 m7.length da7]) S8 rfl rfl rfl rfl sz_30 0 rfl (.inl rfl) rfl rfl rfl ?_
 intro w9 S10 E11
 replace HA5 := rx HA5 E11 (S8.blk 0 rfl)
 replace HA7 := rx HA7 E11 (S8.blk 0 rfl)
 replace HT := Aside0.mk (HT.out.move (fun k_ hk_ hl_ => E11.block k_ hl_ (fun e_ => by have o_ := S8.own _ (List.mem_of_getElem? (i := 0) rfl) rfl; try dsimp only at o_ e_; have b_ := hI.okN k_ hk_; omega)))
 replace HL := Aside0.mk (Kd.V_step HL.out (fun k_ hk_ hl_ => E11.block k_ hl_ (fun e_ => by have o_ := S8.own _ (List.mem_of_getElem? (i := 0) rfl) rfl; try dsimp only at o_ e_; have b_ := hI.PN k_ hk_; omega)))
 refine q_nil ?_
 refine x_seq ?_
 refine s_seq ?_
 refine s_region ?_
 refine qv (v := .agg #[.int .i64 kd, .int .i64 fd, .int .i64 s0, .int .u32 s1, .bool b0, .slice Ba5 m5.length da5, .int .i64 s3, .slice Ba7 m7.length da7]) (r_loadN (vs := [.int .i64 kd, .int .i64 fd, .int .i64 s0, .int .u32 s1, .bool b0, .slice Ba5 m5.length da5, .int .i64 s3, .slice Ba7 m7.length da7]) sz_30 rfl (S10.blk 0 rfl) rfl rfl) ?_
 refine qo ?_
 refine e_call (args := [.agg #[.int .i64 kd, .int .i64 fd, .int .i64 s0, .int .u32 s1, .bool b0, .slice Ba5 m5.length da5, .int .i64 s3, .slice Ba7 m7.length da7]]) Try.func13 (by kernel_rfl) rfl rfl ?_
 refine (own_same kd fd s0 s1 b0 Ba5 da5 m5 s3 Ba7 da7 m7 _ (R_C HA5.out).2 (R_C HA5.out).1 (R_C HA7.out).2 (R_C HA7.out).1 hl5 hl7).mono ?_
 rintro e w12 ⟨Be5, de5, Be7, de7, rfl, ho5, ho7, hb⟩
 refine ⟨_, rfl, ?_⟩
 have B13 := hb
 have S14 := S10.call B13
 replace HA5 := rb HA5 B13
 replace HA7 := rb HA7 B13
 replace HT := tb HT B13
 replace HL := vb HL B13
 have HE5 := Aside0.mk ho5
 have HE7 := Aside0.mk ho7
 clear ho5 ho7
 refine qo ?_
 refine e_alloc S14 zro_30 ?_
 intro g15 w16 hg15 S17 B18
 replace HA5 := rb HA5 B18
 replace HA7 := rb HA7 B18
 replace HE5 := rb HE5 B18
 replace HE7 := rb HE7 B18
 replace HT := tb HT B18
 replace HL := vb HL B18
 refine qo ?_
 refine e_store (vs := [.int .i64 kd, .int .i64 fd, .int .i64 s0, .int .u32 s1, .bool b0, .slice Be5 m5.length de5, .int .i64 s3, .slice Be7 m7.length de7]) (cs' := [.int .i64 kd, .int .i64 fd, .int .i64 s0, .int .u32 s1, .bool b0, .slice Be5 m5.length de5, .int .i64 s3, .slice Be7 m7.length de7]) S17 rfl rfl rfl rfl sz_30 0 rfl (.inl rfl) rfl rfl rfl ?_
 intro w19 S20 E21
 replace HA5 := rx HA5 E21 (S17.blk 0 rfl)
 replace HA7 := rx HA7 E21 (S17.blk 0 rfl)
 replace HE5 := rx HE5 E21 (S17.blk 0 rfl)
 replace HE7 := rx HE7 E21 (S17.blk 0 rfl)
 replace HT := Aside0.mk (HT.out.move (fun k_ hk_ hl_ => E21.block k_ hl_ (fun e_ => by have o_ := S17.own _ (List.mem_of_getElem? (i := 0) rfl) rfl; try dsimp only at o_ e_; have b_ := hI.okN k_ hk_; omega)))
 replace HL := Aside0.mk (Kd.V_step HL.out (fun k_ hk_ hl_ => E21.block k_ hl_ (fun e_ => by have o_ := S17.own _ (List.mem_of_getElem? (i := 0) rfl) rfl; try dsimp only at o_ e_; have b_ := hI.PN k_ hk_; omega)))
 refine q_nil ?_
 refine x_seq ?_
 refine s_seq ?_
 refine s_seq ?_
 refine s_region ?_
 refine qv (v := .pointer (some ⟨g2, 0, none⟩)) (r_field fld_30_0 rfl rfl) ?_
 refine qv (v := .int .i64 kd) (r_load1 sz_3 rfl (S20.cell 1 rfl rfl)) ?_
 refine q_nil ?_
 refine x_seq ?_
 refine s_block ?_
 refine s_seq ?_
 refine s_region ?_
 refine qv (v := .bool true) (r_eql rfl rfl (beq_t (by omega))) ?_
 refine qv (v := .bool true) (r_assign rfl) ?_
 refine q_nil ?_
 refine x_seq ?_
 refine s_true rfl ?_
 refine s_seq ?_
 refine s_region ?_
 refine qv (v := .pointer (some ⟨g, 0, none⟩)) (r_move rfl) ?_
 refine qv (v := .pointer (some ⟨g15, 1, none⟩)) (r_field fld_30_1 rfl rfl) ?_
 refine qv (v := .int .i64 fd) (r_load1 sz_3 rfl (S20.cell 0 rfl rfl)) ?_
 refine qv (v := .pointer (some ⟨g15, 2, none⟩)) (r_field fld_30_2 rfl rfl) ?_
 refine qv (v := .agg #[.int .i64 s0, .int .u32 s1, .bool b0, .slice Be5 m5.length de5, .int .i64 s3]) (r_loadN (vs := [.int .i64 s0, .int .u32 s1, .bool b0, .slice Be5 m5.length de5, .int .i64 s3]) sz_28 rfl (S20.blk 0 rfl) rfl rfl) ?_
 refine qo ?_
 refine e_call (args := [.pointer (some ⟨g, 0, none⟩), .int .i64 fd, .agg #[.int .i64 s0, .int .u32 s1, .bool b0, .slice Be5 m5.length de5, .int .i64 s3]]) Try.func29 (by kernel_rfl) rfl rfl ?_
 refine (Set_high HT.out fd h0 (by omega) (⟨s0, s1, ⟨b0, m5⟩, s3⟩ : Slot) Be5 de5 (R_C HE5.out).2 (R_C HE5.out).1 200 (by rw [wcanS (⟨s0, s1, ⟨b0, m5⟩, s3⟩ : Slot) hl5, hcan])).mono ?_
 rintro e w22 ⟨rfl, hb⟩
 refine ⟨_, rfl, ?_⟩
 have B23 := hb
 have S24 := S20.call B23
 replace HA5 := rb HA5 B23
 replace HA7 := rb HA7 B23
 replace HE5 := rb HE5 B23
 replace HE7 := rb HE7 B23
 replace HT := tb HT B23
 replace HL := vb HL B23
 refine qv (v := .tuple #[.agg #[.int .i64 0, .int .u32 0, .bool false, .slice none 0 0, .int .i64 0], .bool false, .int .i64 9]) (r_move rfl) ?_
 refine qv (v := .agg #[.int .i64 0, .int .u32 0, .bool false, .slice none 0 0, .int .i64 0]) (r_extract rfl rfl) ?_
 refine qv (v := .bool false) (r_extract rfl rfl) ?_
 refine qv (v := .int .i64 9) (r_extract rfl rfl) ?_
 refine qo ?_
 refine e_alloc S24 zro_28 ?_
 intro g25 w26 hg25 S27 B28
 replace HA5 := rb HA5 B28
 replace HA7 := rb HA7 B28
 replace HE5 := rb HE5 B28
 replace HE7 := rb HE7 B28
 replace HT := tb HT B28
 replace HL := vb HL B28
 refine qo ?_
 refine e_store (vs := [.int .i64 0, .int .u32 0, .bool false, .slice none 0 0, .int .i64 0]) (cs' := [.int .i64 0, .int .u32 0, .bool false, .slice none 0 0, .int .i64 0]) S27 rfl rfl rfl rfl sz_28 0 rfl (.inl rfl) rfl rfl rfl ?_
 intro w29 S30 E31
 replace HA5 := rx HA5 E31 (S27.blk 0 rfl)
 replace HA7 := rx HA7 E31 (S27.blk 0 rfl)
 replace HE5 := rx HE5 E31 (S27.blk 0 rfl)
 replace HE7 := rx HE7 E31 (S27.blk 0 rfl)
 replace HT := Aside0.mk (HT.out.move (fun k_ hk_ hl_ => E31.block k_ hl_ (fun e_ => by have o_ := S27.own _ (List.mem_of_getElem? (i := 0) rfl) rfl; try dsimp only at o_ e_; have b_ := hI.okN k_ hk_; omega)))
 replace HL := Aside0.mk (Kd.V_step HL.out (fun k_ hk_ hl_ => E31.block k_ hl_ (fun e_ => by have o_ := S27.own _ (List.mem_of_getElem? (i := 0) rfl) rfl; try dsimp only at o_ e_; have b_ := hI.PN k_ hk_; omega)))
 refine qv (v := .bool false) (r_assign rfl) ?_
 refine qv (v := .int .i64 9) (r_assign rfl) ?_
 refine q_nil ?_
 refine x_seq ?_
 refine s_seq ?_
 refine s_seq ?_
 refine s_region ?_
 refine qv (v := .pointer (some ⟨g2, 2, none⟩)) (r_field fld_30_2 rfl rfl) ?_
 refine qv (v := .agg #[.int .i64 s0, .int .u32 s1, .bool b0, .slice Ba5 m5.length da5, .int .i64 s3]) (r_loadN (vs := [.int .i64 s0, .int .u32 s1, .bool b0, .slice Ba5 m5.length da5, .int .i64 s3]) sz_28 rfl (S30.blk 2 rfl) rfl rfl) ?_
 refine qo ?_
 refine e_call (args := [.agg #[.int .i64 s0, .int .u32 s1, .bool b0, .slice Ba5 m5.length da5, .int .i64 s3]]) Try.func9 (by kernel_rfl) rfl rfl ?_
 refine (purlieuref13_Can.calls 200 s0 s1 b0 Ba5 da5 m5 s3 true _ (R_C HA5.out).2 (R_C HA5.out).1 (by rw [rcanS (⟨s0, s1, ⟨b0, m5⟩, s3⟩ : Slot) hl5, hcan])).mono ?_
 rintro e w32 ⟨rfl, hb⟩
 refine ⟨_, rfl, ?_⟩
 have B33 := hb
 have S34 := S30.call B33
 replace HA5 := rb HA5 B33
 replace HA7 := rb HA7 B33
 replace HE5 := rb HE5 B33
 replace HE7 := rb HE7 B33
 replace HT := tb HT B33
 replace HL := vb HL B33
 refine qv (v := .bool false) (r_not rfl rfl) ?_
 refine q_nil ?_
 refine x_seq ?_
 refine s_false rfl ?_
 refine s_skip ?_
 refine x_seq ?_
 refine s_seq ?_
 refine s_seq ?_
 refine s_region ?_
 refine qv (v := .pointer (some ⟨g2, 1, none⟩)) (r_field fld_30_1 rfl rfl) ?_
 refine qv (v := .int .i64 fd) (r_load1 sz_3 rfl (S34.cell 2 rfl rfl)) ?_
 refine qv (v := .bool false) (r_lss rfl rfl (decide_eq_false (by omega))) ?_
 refine qv (v := .bool false) (r_move rfl) ?_
 refine q_val (v := .pointer (some ⟨g2, 1, none⟩)) (wan rfl rfl rfl rfl) rfl (r_field fld_30_1 rfl rfl) ?_
 refine q_val (v := .int .i64 fd) (wan rfl rfl rfl rfl) rfl (r_load1 sz_3 rfl (S34.cell 2 rfl rfl)) ?_
 refine q_val (v := .slice (some ad) ((ls ss).length) c) (wan rfl rfl rfl rfl) rfl (r_move rfl) ?_
 refine q_val (v := .int .i64 (((ls ss).length : Nat) : Int)) (wan rfl rfl rfl rfl) rfl (r_len_slice elm_47 rfl) ?_
 refine q_val (v := .bool true) (wan rfl rfl rfl rfl) rfl (r_geq rfl rfl (decide_eq_true (by omega))) ?_
 refine qv (v := .bool true) (r_pick_f rfl rfl) ?_
 refine q_nil ?_
 refine x_seq ?_
 refine s_true rfl ?_
 refine s_seq ?_
 refine s_region ?_
 refine qv (v := .slice (some ad) ((ls ss).length) c) (r_move rfl) ?_
 refine qv (v := .bool false) (r_move rfl) ?_
 refine qv (v := .bool true) (r_not rfl rfl) ?_
 refine qv (v := .bool true) (r_move rfl) ?_
 refine q_val (v := .int .i64 9) (wan rfl rfl rfl rfl) rfl (r_move rfl) ?_
 refine q_val (v := .bool true) (wan rfl rfl rfl rfl) rfl (r_eql rfl rfl (beq_t (by omega))) ?_
 refine qv (v := .bool true) (r_pick_t rfl rfl) ?_
 refine qv (v := .slice (some ad) ((ls ss).length) c) (r_assign rfl) ?_
 refine qv (v := .bool true) (r_assign rfl) ?_
 refine q_nil ?_
 refine x_seq ?_
 refine s_ret ?_
 refine x_seq_ret ?_
 refine x_blk_ret ?_
 refine x_seq_ret ?_
 refine t_ret2 (v := .slice (some ad) ((ls ss).length) c) (v' := .bool true) rfl rfl rfl ?_
 exact post_same hI S34.ext HT.out HL.out
end Go.Proofs.Ytilfalpfanaanaa.PA

namespace Go.Proofs.Ytilfalpfanaanaa.PA
open Go.RowKit Go.Proofs.YtilfalpfanaanaaW.PrintWords Go.Proofs.YtilfalpfanaanaaW.PrintLast Go.Proofs.YtilfalpfanaanaaW.PrintMore Go.Proofs.Ytilfalpfanaanaa.Sx
set_option maxHeartbeats 8000000 in
set_option maxRecDepth 100000 in
theorem Does_take_no {w : World} {b g p : Nat} {ok : Nat → Prop} {qs : List (Option Nat)} {ss : List (Option Slot)} {P : Nat → Prop} {ad : Addr} {c : Nat} (hI : DInv w b g p ok qs ss P ad c) (kd fd s0 s1 : Int) (b0 : Bool) (A5 : Option Addr) (c5 : Nat) (l5 : List Int) (s3 : Int) (A7 : Option Addr) (c7 : Nat) (l7 : List Int) (hr5 : Kd.C (Kd.int .i64) w A5 l5.length l5) (hc5 : l5.length ≤ c5) (hr7 : Kd.C (Kd.int .i64) w A7 l7.length l7) (hc7 : l7.length ≤ c7) (hk : kd = 2) (hno : ∀ s, 0 ≤ fd → ss[fd.toNat]? ≠ some (some s)) : Calls Try.prog 19 #[.pointer (some ⟨g, 0, none⟩), .slice (some ad) ((ls ss).length) c, .agg #[.int .i64 kd, .int .i64 fd, .int .i64 s0, .int .u32 s1, .bool b0, .slice A5 l5.length c5, .int .i64 s3, .slice A7 l7.length c7]] w (Post w b g p ok ss.length P) := by
 have HT := Aside0.mk hI.T
 have HL := Aside0.mk hI.L
 have hll := ls_len ss
 have hfew := hI.few
 have hqs := hI.T.len
 refine s_enter (n := 233) (L := [(0, .pointer (some ⟨g, 0, none⟩)), (1, .slice (some ad) ((ls ss).length) c), (2, .agg #[.int .i64 kd, .int .i64 fd, .int .i64 s0, .int .u32 s1, .bool b0, .slice A5 l5.length c5, .int .i64 s3, .slice A7 l7.length c7])]) Try.func19 rfl rfl rfl rfl ?_
 have S1 := St.start w (ok)
 refine s_seq ?_
 refine s_region ?_
 refine qo ?_
 refine e_box (cs := [.int .i64 kd, .int .i64 fd, .int .i64 s0, .int .u32 s1, .bool b0, .slice A5 l5.length c5, .int .i64 s3, .slice A7 l7.length c7]) S1 rfl rfl ?_
 intro g2 w3 hg2 S4 B5
 replace HT := tb HT B5
 replace HL := vb HL B5
 refine qv (v := .slice none 0 0) (r_assign rfl) ?_
 refine qv (v := .bool false) (r_assign rfl) ?_
 refine q_nil ?_
 refine x_seq ?_
 refine s_seq ?_
 refine s_region ?_
 refine qv (v := .agg #[.int .i64 kd, .int .i64 fd, .int .i64 s0, .int .u32 s1, .bool b0, .slice A5 l5.length c5, .int .i64 s3, .slice A7 l7.length c7]) (r_loadN (vs := [.int .i64 kd, .int .i64 fd, .int .i64 s0, .int .u32 s1, .bool b0, .slice A5 l5.length c5, .int .i64 s3, .slice A7 l7.length c7]) sz_30 rfl (S4.blk 0 rfl) rfl rfl) ?_
 refine qo ?_
 refine e_call (args := [.agg #[.int .i64 kd, .int .i64 fd, .int .i64 s0, .int .u32 s1, .bool b0, .slice A5 l5.length c5, .int .i64 s3, .slice A7 l7.length c7]]) Try.func13 (by kernel_rfl) rfl rfl ?_
 refine (own_cut kd fd s0 s1 b0 A5 c5 l5 s3 A7 c7 l7 _ (Kd.C_below hr5 B5) hc5 (Kd.C_below hr7 B5) hc7).mono ?_
 rintro e w6 ⟨m5, m7, Ba5, da5, Ba7, da7, ⟨hm5, hm7⟩, hl5, hl7, rfl, ho5, ho7, hb⟩
 refine ⟨_, rfl, ?_⟩
 have B7 := hb
 have S8 := S4.call B7
 replace HT := tb HT B7
 replace HL := vb HL B7
 have HA5 := Aside0.mk ho5
 have HA7 := Aside0.mk ho7
 clear ho5 ho7
 have HBa := S4.ext.size
 refine qo ?_
 refine e_store (vs := [.int .i64 kd, .int .i64 fd, .int .i64 s0, .int .u32 s1, .bool b0, .slice Ba5 m5.length da5, .int .i64 s3, .slice Ba7 m7.length da7]) (cs' := [.int .i64 kd, .int .i64 fd, .int .i64 s0, .int .u32 s1, .bool b0, .slice Ba5 m5.length da5, .int .i64 s3, .slice Ba7 m7.length da7]) S8 rfl rfl rfl rfl sz_30 0 rfl (.inl rfl) rfl rfl rfl ?_
 intro w9 S10 E11
 replace HA5 := rx HA5 E11 (S8.blk 0 rfl)
 replace HA7 := rx HA7 E11 (S8.blk 0 rfl)
 replace HT := Aside0.mk (HT.out.move (fun k_ hk_ hl_ => E11.block k_ hl_ (fun e_ => by have o_ := S8.own _ (List.mem_of_getElem? (i := 0) rfl) rfl; try dsimp only at o_ e_; have b_ := hI.okN k_ hk_; omega)))
 replace HL := Aside0.mk (Kd.V_step HL.out (fun k_ hk_ hl_ => E11.block k_ hl_ (fun e_ => by have o_ := S8.own _ (List.mem_of_getElem? (i := 0) rfl) rfl; try dsimp only at o_ e_; have b_ := hI.PN k_ hk_; omega)))
 refine q_nil ?_
 refine x_seq ?_
 refine s_seq ?_
 refine s_region ?_
 refine qv (v := .agg #[.int .i64 kd, .int .i64 fd, .int .i64 s0, .int .u32 s1, .bool b0, .slice Ba5 m5.length da5, .int .i64 s3, .slice Ba7 m7.length da7]) (r_loadN (vs := [.int .i64 kd, .int .i64 fd, .int .i64 s0, .int .u32 s1, .bool b0, .slice Ba5 m5.length da5, .int .i64 s3, .slice Ba7 m7.length da7]) sz_30 rfl (S10.blk 0 rfl) rfl rfl) ?_
 refine qo ?_
 refine e_call (args := [.agg #[.int .i64 kd, .int .i64 fd, .int .i64 s0, .int .u32 s1, .bool b0, .slice Ba5 m5.length da5, .int .i64 s3, .slice Ba7 m7.length da7]]) Try.func13 (by kernel_rfl) rfl rfl ?_
 refine (own_same kd fd s0 s1 b0 Ba5 da5 m5 s3 Ba7 da7 m7 _ (R_C HA5.out).2 (R_C HA5.out).1 (R_C HA7.out).2 (R_C HA7.out).1 hl5 hl7).mono ?_
 rintro e w12 ⟨Be5, de5, Be7, de7, rfl, ho5, ho7, hb⟩
 refine ⟨_, rfl, ?_⟩
 have B13 := hb
 have S14 := S10.call B13
 replace HA5 := rb HA5 B13
 replace HA7 := rb HA7 B13
 replace HT := tb HT B13
 replace HL := vb HL B13
 have HE5 := Aside0.mk ho5
 have HE7 := Aside0.mk ho7
 clear ho5 ho7
 refine qo ?_
 refine e_alloc S14 zro_30 ?_
 intro g15 w16 hg15 S17 B18
 replace HA5 := rb HA5 B18
 replace HA7 := rb HA7 B18
 replace HE5 := rb HE5 B18
 replace HE7 := rb HE7 B18
 replace HT := tb HT B18
 replace HL := vb HL B18
 refine qo ?_
 refine e_store (vs := [.int .i64 kd, .int .i64 fd, .int .i64 s0, .int .u32 s1, .bool b0, .slice Be5 m5.length de5, .int .i64 s3, .slice Be7 m7.length de7]) (cs' := [.int .i64 kd, .int .i64 fd, .int .i64 s0, .int .u32 s1, .bool b0, .slice Be5 m5.length de5, .int .i64 s3, .slice Be7 m7.length de7]) S17 rfl rfl rfl rfl sz_30 0 rfl (.inl rfl) rfl rfl rfl ?_
 intro w19 S20 E21
 replace HA5 := rx HA5 E21 (S17.blk 0 rfl)
 replace HA7 := rx HA7 E21 (S17.blk 0 rfl)
 replace HE5 := rx HE5 E21 (S17.blk 0 rfl)
 replace HE7 := rx HE7 E21 (S17.blk 0 rfl)
 replace HT := Aside0.mk (HT.out.move (fun k_ hk_ hl_ => E21.block k_ hl_ (fun e_ => by have o_ := S17.own _ (List.mem_of_getElem? (i := 0) rfl) rfl; try dsimp only at o_ e_; have b_ := hI.okN k_ hk_; omega)))
 replace HL := Aside0.mk (Kd.V_step HL.out (fun k_ hk_ hl_ => E21.block k_ hl_ (fun e_ => by have o_ := S17.own _ (List.mem_of_getElem? (i := 0) rfl) rfl; try dsimp only at o_ e_; have b_ := hI.PN k_ hk_; omega)))
 refine q_nil ?_
 refine x_seq ?_
 refine s_seq ?_
 refine s_seq ?_
 refine s_region ?_
 refine qv (v := .pointer (some ⟨g2, 0, none⟩)) (r_field fld_30_0 rfl rfl) ?_
 refine qv (v := .int .i64 kd) (r_load1 sz_3 rfl (S20.cell 1 rfl rfl)) ?_
 refine q_nil ?_
 refine x_seq ?_
 refine s_block ?_
 refine s_seq ?_
 refine s_region ?_
 refine qv (v := .bool false) (r_eql rfl rfl (beq_f (by omega))) ?_
 refine qv (v := .bool false) (r_assign rfl) ?_
 refine q_nil ?_
 refine x_seq ?_
 refine s_false rfl ?_
 refine s_seq ?_
 refine s_region ?_
 refine qv (v := .bool true) (r_eql rfl rfl (beq_t (by omega))) ?_
 refine qv (v := .bool true) (r_assign rfl) ?_
 refine q_nil ?_
 refine x_seq ?_
 refine s_true rfl ?_
 refine s_seq ?_
 refine s_region ?_
 refine qv (v := .pointer (some ⟨g, 0, none⟩)) (r_move rfl) ?_
 refine qv (v := .pointer (some ⟨g15, 1, none⟩)) (r_field fld_30_1 rfl rfl) ?_
 refine qv (v := .int .i64 fd) (r_load1 sz_3 rfl (S20.cell 0 rfl rfl)) ?_
 refine qo ?_
 refine e_call (args := [.pointer (some ⟨g, 0, none⟩), .int .i64 fd]) Try.func30 (by kernel_rfl) rfl rfl ?_
 refine (Take_err (some ⟨g, 0, none⟩) fd 9 (by decide) (fun w' hb' => get_bad (HT.out.below hb') fd (tab_no hI.T hno))).mono ?_
 rintro e w22 ⟨rfl, hb⟩
 refine ⟨_, rfl, ?_⟩
 have B23 := hb
 have S24 := S20.call B23
 replace HA5 := rb HA5 B23
 replace HA7 := rb HA7 B23
 replace HE5 := rb HE5 B23
 replace HE7 := rb HE7 B23
 replace HT := tb HT B23
 replace HL := vb HL B23
 refine qv (v := .tuple #[.agg #[.int .i64 0, .int .u32 0, .bool false, .slice none 0 0, .int .i64 0], .int .i64 9]) (r_move rfl) ?_
 refine qv (v := .agg #[.int .i64 0, .int .u32 0, .bool false, .slice none 0 0, .int .i64 0]) (r_extract rfl rfl) ?_
 refine qv (v := .int .i64 9) (r_extract rfl rfl) ?_
 refine qo ?_
 refine e_alloc S24 zro_28 ?_
 intro g25 w26 hg25 S27 B28
 replace HA5 := rb HA5 B28
 replace HA7 := rb HA7 B28
 replace HE5 := rb HE5 B28
 replace HE7 := rb HE7 B28
 replace HT := tb HT B28
 replace HL := vb HL B28
 refine qo ?_
 refine e_store (vs := [.int .i64 0, .int .u32 0, .bool false, .slice none 0 0, .int .i64 0]) (cs' := [.int .i64 0, .int .u32 0, .bool false, .slice none 0 0, .int .i64 0]) S27 rfl rfl rfl rfl sz_28 0 rfl (.inl rfl) rfl rfl rfl ?_
 intro w29 S30 E31
 replace HA5 := rx HA5 E31 (S27.blk 0 rfl)
 replace HA7 := rx HA7 E31 (S27.blk 0 rfl)
 replace HE5 := rx HE5 E31 (S27.blk 0 rfl)
 replace HE7 := rx HE7 E31 (S27.blk 0 rfl)
 replace HT := Aside0.mk (HT.out.move (fun k_ hk_ hl_ => E31.block k_ hl_ (fun e_ => by have o_ := S27.own _ (List.mem_of_getElem? (i := 0) rfl) rfl; try dsimp only at o_ e_; have b_ := hI.okN k_ hk_; omega)))
 replace HL := Aside0.mk (Kd.V_step HL.out (fun k_ hk_ hl_ => E31.block k_ hl_ (fun e_ => by have o_ := S27.own _ (List.mem_of_getElem? (i := 0) rfl) rfl; try dsimp only at o_ e_; have b_ := hI.PN k_ hk_; omega)))
 refine qv (v := .int .i64 9) (r_assign rfl) ?_
 refine q_nil ?_
 refine x_seq ?_
 refine s_seq ?_
 refine s_region ?_
 refine qv (v := .slice (some ad) ((ls ss).length) c) (r_move rfl) ?_
 refine qv (v := .pointer (some ⟨g2, 1, none⟩)) (r_field fld_30_1 rfl rfl) ?_
 refine qv (v := .int .i64 fd) (r_load1 sz_3 rfl (S30.cell 2 rfl rfl)) ?_
 refine qo ?_
 refine e_call (args := [.slice (some ad) ((ls ss).length) c, .int .i64 fd, .int .u32 0]) Try.func20 (by kernel_rfl) rfl rfl ?_
 refine (purlieuref13_Get.calls 40 (some ad) c (ls ss) fd 0 9 _ (LV_C HL.out).1 (LV_C HL.out).2 (rget_bad ss hI.G fd 0 hno)).mono ?_
 rintro e w32 ⟨rfl, hd⟩
 refine ⟨_, rfl, ?_⟩
 have B33 := (Drawn0.below hd)
 have S34 := S30.call B33
 replace HA5 := rb HA5 B33
 replace HA7 := rb HA7 B33
 replace HE5 := rb HE5 B33
 replace HE7 := rb HE7 B33
 replace HT := tb HT B33
 replace HL := vb HL B33
 refine qv (v := .int .i64 9) (r_assign rfl) ?_
 refine q_nil ?_
 refine x_seq ?_
 refine s_seq ?_
 refine s_seq ?_
 refine s_region ?_
 refine qv (v := .int .i64 9) (r_move rfl) ?_
 refine qv (v := .bool true) (r_neq rfl rfl (bne_t (by omega))) ?_
 refine q_nil ?_
 refine x_seq ?_
 refine s_true rfl ?_
 refine s_seq ?_
 refine s_region ?_
 refine qv (v := .slice (some ad) ((ls ss).length) c) (r_move rfl) ?_
 refine qv (v := .int .i64 9) (r_move rfl) ?_
 refine qv (v := .int .i64 9) (r_move rfl) ?_
 refine qv (v := .bool true) (r_eql rfl rfl (beq_t (by omega))) ?_
 refine qv (v := .bool true) (r_move rfl) ?_
 refine q_val (v := .agg #[.int .i64 0, .int .u32 0, .bool false, .slice none 0 0, .int .i64 0]) (wan rfl rfl rfl rfl) rfl (r_loadN (vs := [.int .i64 0, .int .u32 0, .bool false, .slice none 0 0, .int .i64 0]) sz_28 rfl (S34.blk 0 rfl) rfl rfl) ?_
 refine q_val (v := .agg #[.int .i64 0, .int .u32 0, .bool false, .slice none 0 0, .int .i64 0]) (wan rfl rfl rfl rfl) rfl (r_build (ps := []) rfl (by kernel_rfl)) ?_
 refine q_of (wan rfl rfl rfl rfl) ?_
 refine e_call (args := [.agg #[.int .i64 0, .int .u32 0, .bool false, .slice none 0 0, .int .i64 0], .agg #[.int .i64 0, .int .u32 0, .bool false, .slice none 0 0, .int .i64 0]]) Try.func18 (by kernel_rfl) rfl rfl ?_
 refine (purlieuref13_One.calls 1 0 0 false none 0 [] 0 0 0 false none 0 [] 0 true _ (R_C (Kd.R_nil (Kd.int .i64) 3 w32 0 (fun _ => True))).2 (Nat.le_refl _) (R_C (Kd.R_nil (Kd.int .i64) 3 w32 0 (fun _ => True))).2 (Nat.le_refl _) (by decide +kernel)).mono ?_
 rintro e w35 ⟨rfl, hb⟩
 refine ⟨_, rfl, ?_⟩
 have B36 := hb
 have S37 := S34.call B36
 replace HA5 := rb HA5 B36
 replace HA7 := rb HA7 B36
 replace HE5 := rb HE5 B36
 replace HE7 := rb HE7 B36
 replace HT := tb HT B36
 replace HL := vb HL B36
 refine qv (v := .bool true) (r_pick_t rfl rfl) ?_
 refine qv (v := .slice (some ad) ((ls ss).length) c) (r_assign rfl) ?_
 refine qv (v := .bool true) (r_assign rfl) ?_
 refine q_nil ?_
 refine x_seq ?_
 refine s_ret ?_
 refine x_seq_ret ?_
 refine x_blk_ret ?_
 refine x_seq_ret ?_
 refine t_ret2 (v := .slice (some ad) ((ls ss).length) c) (v' := .bool true) rfl rfl rfl ?_
 exact post_same hI S37.ext HT.out HL.out
set_option maxHeartbeats 8000000 in
set_option maxRecDepth 100000 in
theorem Does_Limit_no {w : World} {b g p : Nat} {ok : Nat → Prop} {qs : List (Option Nat)} {ss : List (Option Slot)} {P : Nat → Prop} {ad : Addr} {c : Nat} (hI : DInv w b g p ok qs ss P ad c) (kd fd s0 s1 : Int) (b0 : Bool) (A5 : Option Addr) (c5 : Nat) (l5 : List Int) (s3 : Int) (A7 : Option Addr) (c7 : Nat) (l7 : List Int) (hr5 : Kd.C (Kd.int .i64) w A5 l5.length l5) (hc5 : l5.length ≤ c5) (hr7 : Kd.C (Kd.int .i64) w A7 l7.length l7) (hc7 : l7.length ≤ c7) (hk : kd = 3) (e : Int) (hR : ∀ w'', LV w'' P ad c (ls ss) → (∀ k, P k → k < w''.heap.size) → Calls Try.prog 45 #[.slice (some ad) ((ls ss).length) c, .int .i64 fd, .int .u32 s1] w'' fun e' w' => e' = .returned (.tuple #[.slice (some ad) ((ls ss).length) c, .int .i64 e]) ∧ Below w''.heap.size w'' w') (hT : ∀ w'', TabAt w'' b ok g p qs ss → Calls Try.prog 14 #[.pointer (some ⟨g, 0, none⟩), .int .i64 fd, .int .u32 s1] w'' fun e' w' => e' = .returned (.int .i64 e) ∧ Below w''.heap.size w'' w') : Calls Try.prog 19 #[.pointer (some ⟨g, 0, none⟩), .slice (some ad) ((ls ss).length) c, .agg #[.int .i64 kd, .int .i64 fd, .int .i64 s0, .int .u32 s1, .bool b0, .slice A5 l5.length c5, .int .i64 s3, .slice A7 l7.length c7]] w (Post w b g p ok ss.length P) := by
 have HT := Aside0.mk hI.T
 have HL := Aside0.mk hI.L
 have hll := ls_len ss
 have hfew := hI.few
 have hqs := hI.T.len
 refine s_enter (n := 233) (L := [(0, .pointer (some ⟨g, 0, none⟩)), (1, .slice (some ad) ((ls ss).length) c), (2, .agg #[.int .i64 kd, .int .i64 fd, .int .i64 s0, .int .u32 s1, .bool b0, .slice A5 l5.length c5, .int .i64 s3, .slice A7 l7.length c7])]) Try.func19 rfl rfl rfl rfl ?_
 have S1 := St.start w (ok)
 refine s_seq ?_
 refine s_region ?_
 refine qo ?_
 refine e_box (cs := [.int .i64 kd, .int .i64 fd, .int .i64 s0, .int .u32 s1, .bool b0, .slice A5 l5.length c5, .int .i64 s3, .slice A7 l7.length c7]) S1 rfl rfl ?_
 intro g2 w3 hg2 S4 B5
 replace HT := tb HT B5
 replace HL := vb HL B5
 refine qv (v := .slice none 0 0) (r_assign rfl) ?_
 refine qv (v := .bool false) (r_assign rfl) ?_
 refine q_nil ?_
 refine x_seq ?_
 refine s_seq ?_
 refine s_region ?_
 refine qv (v := .agg #[.int .i64 kd, .int .i64 fd, .int .i64 s0, .int .u32 s1, .bool b0, .slice A5 l5.length c5, .int .i64 s3, .slice A7 l7.length c7]) (r_loadN (vs := [.int .i64 kd, .int .i64 fd, .int .i64 s0, .int .u32 s1, .bool b0, .slice A5 l5.length c5, .int .i64 s3, .slice A7 l7.length c7]) sz_30 rfl (S4.blk 0 rfl) rfl rfl) ?_
 refine qo ?_
 refine e_call (args := [.agg #[.int .i64 kd, .int .i64 fd, .int .i64 s0, .int .u32 s1, .bool b0, .slice A5 l5.length c5, .int .i64 s3, .slice A7 l7.length c7]]) Try.func13 (by kernel_rfl) rfl rfl ?_
 refine (own_cut kd fd s0 s1 b0 A5 c5 l5 s3 A7 c7 l7 _ (Kd.C_below hr5 B5) hc5 (Kd.C_below hr7 B5) hc7).mono ?_
 rintro e w6 ⟨m5, m7, Ba5, da5, Ba7, da7, ⟨hm5, hm7⟩, hl5, hl7, rfl, ho5, ho7, hb⟩
 refine ⟨_, rfl, ?_⟩
 have B7 := hb
 have S8 := S4.call B7
 replace HT := tb HT B7
 replace HL := vb HL B7
 have HA5 := Aside0.mk ho5
 have HA7 := Aside0.mk ho7
 clear ho5 ho7
 have HBa := S4.ext.size
 refine qo ?_
 refine e_store (vs := [.int .i64 kd, .int .i64 fd, .int .i64 s0, .int .u32 s1, .bool b0, .slice Ba5 m5.length da5, .int .i64 s3, .slice Ba7 m7.length da7]) (cs' := [.int .i64 kd, .int .i64 fd, .int .i64 s0, .int .u32 s1, .bool b0, .slice Ba5 m5.length da5, .int .i64 s3, .slice Ba7 m7.length da7]) S8 rfl rfl rfl rfl sz_30 0 rfl (.inl rfl) rfl rfl rfl ?_
 intro w9 S10 E11
 replace HA5 := rx HA5 E11 (S8.blk 0 rfl)
 replace HA7 := rx HA7 E11 (S8.blk 0 rfl)
 replace HT := Aside0.mk (HT.out.move (fun k_ hk_ hl_ => E11.block k_ hl_ (fun e_ => by have o_ := S8.own _ (List.mem_of_getElem? (i := 0) rfl) rfl; try dsimp only at o_ e_; have b_ := hI.okN k_ hk_; omega)))
 replace HL := Aside0.mk (Kd.V_step HL.out (fun k_ hk_ hl_ => E11.block k_ hl_ (fun e_ => by have o_ := S8.own _ (List.mem_of_getElem? (i := 0) rfl) rfl; try dsimp only at o_ e_; have b_ := hI.PN k_ hk_; omega)))
 refine q_nil ?_
 refine x_seq ?_
 refine s_seq ?_
 refine s_region ?_
 refine qv (v := .agg #[.int .i64 kd, .int .i64 fd, .int .i64 s0, .int .u32 s1, .bool b0, .slice Ba5 m5.length da5, .int .i64 s3, .slice Ba7 m7.length da7]) (r_loadN (vs := [.int .i64 kd, .int .i64 fd, .int .i64 s0, .int .u32 s1, .bool b0, .slice Ba5 m5.length da5, .int .i64 s3, .slice Ba7 m7.length da7]) sz_30 rfl (S10.blk 0 rfl) rfl rfl) ?_
 refine qo ?_
 refine e_call (args := [.agg #[.int .i64 kd, .int .i64 fd, .int .i64 s0, .int .u32 s1, .bool b0, .slice Ba5 m5.length da5, .int .i64 s3, .slice Ba7 m7.length da7]]) Try.func13 (by kernel_rfl) rfl rfl ?_
 refine (own_same kd fd s0 s1 b0 Ba5 da5 m5 s3 Ba7 da7 m7 _ (R_C HA5.out).2 (R_C HA5.out).1 (R_C HA7.out).2 (R_C HA7.out).1 hl5 hl7).mono ?_
 rintro e w12 ⟨Be5, de5, Be7, de7, rfl, ho5, ho7, hb⟩
 refine ⟨_, rfl, ?_⟩
 have B13 := hb
 have S14 := S10.call B13
 replace HA5 := rb HA5 B13
 replace HA7 := rb HA7 B13
 replace HT := tb HT B13
 replace HL := vb HL B13
 have HE5 := Aside0.mk ho5
 have HE7 := Aside0.mk ho7
 clear ho5 ho7
 refine qo ?_
 refine e_alloc S14 zro_30 ?_
 intro g15 w16 hg15 S17 B18
 replace HA5 := rb HA5 B18
 replace HA7 := rb HA7 B18
 replace HE5 := rb HE5 B18
 replace HE7 := rb HE7 B18
 replace HT := tb HT B18
 replace HL := vb HL B18
 refine qo ?_
 refine e_store (vs := [.int .i64 kd, .int .i64 fd, .int .i64 s0, .int .u32 s1, .bool b0, .slice Be5 m5.length de5, .int .i64 s3, .slice Be7 m7.length de7]) (cs' := [.int .i64 kd, .int .i64 fd, .int .i64 s0, .int .u32 s1, .bool b0, .slice Be5 m5.length de5, .int .i64 s3, .slice Be7 m7.length de7]) S17 rfl rfl rfl rfl sz_30 0 rfl (.inl rfl) rfl rfl rfl ?_
 intro w19 S20 E21
 replace HA5 := rx HA5 E21 (S17.blk 0 rfl)
 replace HA7 := rx HA7 E21 (S17.blk 0 rfl)
 replace HE5 := rx HE5 E21 (S17.blk 0 rfl)
 replace HE7 := rx HE7 E21 (S17.blk 0 rfl)
 replace HT := Aside0.mk (HT.out.move (fun k_ hk_ hl_ => E21.block k_ hl_ (fun e_ => by have o_ := S17.own _ (List.mem_of_getElem? (i := 0) rfl) rfl; try dsimp only at o_ e_; have b_ := hI.okN k_ hk_; omega)))
 replace HL := Aside0.mk (Kd.V_step HL.out (fun k_ hk_ hl_ => E21.block k_ hl_ (fun e_ => by have o_ := S17.own _ (List.mem_of_getElem? (i := 0) rfl) rfl; try dsimp only at o_ e_; have b_ := hI.PN k_ hk_; omega)))
 refine q_nil ?_
 refine x_seq ?_
 refine s_seq ?_
 refine s_seq ?_
 refine s_region ?_
 refine qv (v := .pointer (some ⟨g2, 0, none⟩)) (r_field fld_30_0 rfl rfl) ?_
 refine qv (v := .int .i64 kd) (r_load1 sz_3 rfl (S20.cell 1 rfl rfl)) ?_
 refine q_nil ?_
 refine x_seq ?_
 refine s_block ?_
 refine s_seq ?_
 refine s_region ?_
 refine qv (v := .bool false) (r_eql rfl rfl (beq_f (by omega))) ?_
 refine qv (v := .bool false) (r_assign rfl) ?_
 refine q_nil ?_
 refine x_seq ?_
 refine s_false rfl ?_
 refine s_seq ?_
 refine s_region ?_
 refine qv (v := .bool false) (r_eql rfl rfl (beq_f (by omega))) ?_
 refine qv (v := .bool false) (r_assign rfl) ?_
 refine q_nil ?_
 refine x_seq ?_
 refine s_false rfl ?_
 refine s_seq ?_
 refine s_region ?_
 refine qv (v := .bool true) (r_eql rfl rfl (beq_t (by omega))) ?_
 refine qv (v := .bool true) (r_assign rfl) ?_
 refine q_nil ?_
 refine x_seq ?_
 refine s_true rfl ?_
 refine s_seq ?_
 refine s_region ?_
 refine qv (v := .slice (some ad) ((ls ss).length) c) (r_move rfl) ?_
 refine qv (v := .pointer (some ⟨g2, 1, none⟩)) (r_field fld_30_1 rfl rfl) ?_
 refine qv (v := .int .i64 fd) (r_load1 sz_3 rfl (S20.cell 1 rfl rfl)) ?_
 refine qv (v := .pointer (some ⟨g2, 2, none⟩)) (r_field fld_30_2 rfl rfl) ?_
 refine qv (v := .pointer (some ⟨g2, 3, none⟩)) (r_field fld_28_1 rfl rfl) ?_
 refine qv (v := .int .u32 s1) (r_load1 sz_23 rfl (S20.cell 1 rfl rfl)) ?_
 refine qo ?_
 refine e_call (args := [.slice (some ad) ((ls ss).length) c, .int .i64 fd, .int .u32 s1]) Try.func45 (by kernel_rfl) rfl rfl ?_
 refine (hR _ HL.out (fun k_ hk_ => Nat.lt_of_lt_of_le (hI.PN k_ hk_) S20.ext.size)).mono ?_
 rintro e w22 ⟨rfl, hb⟩
 refine ⟨_, rfl, ?_⟩
 have B23 := hb
 have S24 := S20.call B23
 replace HA5 := rb HA5 B23
 replace HA7 := rb HA7 B23
 replace HE5 := rb HE5 B23
 replace HE7 := rb HE7 B23
 replace HT := tb HT B23
 replace HL := vb HL B23
 refine qv (v := .tuple #[.slice (some ad) ((ls ss).length) c, .int .i64 e]) (r_move rfl) ?_
 refine qv (v := .slice (some ad) ((ls ss).length) c) (r_extract rfl rfl) ?_
 refine qv (v := .int .i64 e) (r_extract rfl rfl) ?_
 refine qv (v := .slice (some ad) ((ls ss).length) c) (r_assign rfl) ?_
 refine qv (v := .int .i64 e) (r_assign rfl) ?_
 refine q_nil ?_
 refine x_seq ?_
 refine s_seq ?_
 refine s_region ?_
 refine qv (v := .slice (some ad) ((ls ss).length) c) (r_move rfl) ?_
 refine qv (v := .pointer (some ⟨g, 0, none⟩)) (r_move rfl) ?_
 refine qv (v := .pointer (some ⟨g15, 1, none⟩)) (r_field fld_30_1 rfl rfl) ?_
 refine qv (v := .int .i64 fd) (r_load1 sz_3 rfl (S24.cell 0 rfl rfl)) ?_
 refine qv (v := .pointer (some ⟨g15, 2, none⟩)) (r_field fld_30_2 rfl rfl) ?_
 refine qv (v := .pointer (some ⟨g15, 3, none⟩)) (r_field fld_28_1 rfl rfl) ?_
 refine qv (v := .int .u32 s1) (r_load1 sz_23 rfl (S24.cell 0 rfl rfl)) ?_
 refine qo ?_
 refine e_call (args := [.pointer (some ⟨g, 0, none⟩), .int .i64 fd, .int .u32 s1]) Try.func14 (by kernel_rfl) rfl rfl ?_
 refine (hT _ HT.out).mono ?_
 rintro e w25 ⟨rfl, hb⟩
 refine ⟨_, rfl, ?_⟩
 have B26 := hb
 have S27 := S24.call B26
 replace HA5 := rb HA5 B26
 replace HA7 := rb HA7 B26
 replace HE5 := rb HE5 B26
 replace HE7 := rb HE7 B26
 replace HT := tb HT B26
 replace HL := vb HL B26
 refine qv (v := .int .i64 e) (r_move rfl) ?_
 refine qv (v := .bool true) (r_eql rfl rfl (beq_t (rfl))) ?_
 refine qv (v := .slice (some ad) ((ls ss).length) c) (r_assign rfl) ?_
 refine qv (v := .bool true) (r_assign rfl) ?_
 refine q_nil ?_
 refine x_seq ?_
 refine s_ret ?_
 refine x_blk_ret ?_
 refine x_seq_ret ?_
 refine t_ret2 (v := .slice (some ad) ((ls ss).length) c) (v' := .bool true) rfl rfl rfl ?_
 exact post_same hI S27.ext HT.out HL.out
set_option maxHeartbeats 8000000 in
set_option maxRecDepth 100000 in
theorem Does_LimitIoctls_no {w : World} {b g p : Nat} {ok : Nat → Prop} {qs : List (Option Nat)} {ss : List (Option Slot)} {P : Nat → Prop} {ad : Addr} {c : Nat} (hI : DInv w b g p ok qs ss P ad c) (kd fd s0 s1 : Int) (b0 : Bool) (A5 : Option Addr) (c5 : Nat) (l5 : List Int) (s3 : Int) (A7 : Option Addr) (c7 : Nat) (l7 : List Int) (hr5 : Kd.C (Kd.int .i64) w A5 l5.length l5) (hc5 : l5.length ≤ c5) (hr7 : Kd.C (Kd.int .i64) w A7 l7.length l7) (hc7 : l7.length ≤ c7) (hk : kd = 4) (e : Int) (hR : ∀ w'', LV w'' P ad c (ls ss) → (∀ k, P k → k < w''.heap.size) → ∀ A d, Kd.C (Kd.int .i64) w'' A (cut50 l7).length (cut50 l7) → (cut50 l7).length ≤ d → Calls Try.prog 46 #[.slice (some ad) ((ls ss).length) c, .int .i64 fd, .slice A (cut50 l7).length d] w'' fun e' w' => e' = .returned (.tuple #[.slice (some ad) ((ls ss).length) c, .int .i64 e]) ∧ Below w''.heap.size w'' w') (hT : ∀ w'', TabAt w'' b ok g p qs ss → ∀ A c, Kd.C (Kd.int .i64) w'' A (cut50 l7).length (cut50 l7) → (cut50 l7).length ≤ c → Calls Try.prog 15 #[.pointer (some ⟨g, 0, none⟩), .int .i64 fd, .slice A (cut50 l7).length c] w'' fun e' w' => e' = .returned (.int .i64 e) ∧ Below w''.heap.size w'' w') : Calls Try.prog 19 #[.pointer (some ⟨g, 0, none⟩), .slice (some ad) ((ls ss).length) c, .agg #[.int .i64 kd, .int .i64 fd, .int .i64 s0, .int .u32 s1, .bool b0, .slice A5 l5.length c5, .int .i64 s3, .slice A7 l7.length c7]] w (Post w b g p ok ss.length P) := by
 have HT := Aside0.mk hI.T
 have HL := Aside0.mk hI.L
 have hll := ls_len ss
 have hfew := hI.few
 have hqs := hI.T.len
 refine s_enter (n := 233) (L := [(0, .pointer (some ⟨g, 0, none⟩)), (1, .slice (some ad) ((ls ss).length) c), (2, .agg #[.int .i64 kd, .int .i64 fd, .int .i64 s0, .int .u32 s1, .bool b0, .slice A5 l5.length c5, .int .i64 s3, .slice A7 l7.length c7])]) Try.func19 rfl rfl rfl rfl ?_
 have S1 := St.start w (ok)
 refine s_seq ?_
 refine s_region ?_
 refine qo ?_
 refine e_box (cs := [.int .i64 kd, .int .i64 fd, .int .i64 s0, .int .u32 s1, .bool b0, .slice A5 l5.length c5, .int .i64 s3, .slice A7 l7.length c7]) S1 rfl rfl ?_
 intro g2 w3 hg2 S4 B5
 replace HT := tb HT B5
 replace HL := vb HL B5
 refine qv (v := .slice none 0 0) (r_assign rfl) ?_
 refine qv (v := .bool false) (r_assign rfl) ?_
 refine q_nil ?_
 refine x_seq ?_
 refine s_seq ?_
 refine s_region ?_
 refine qv (v := .agg #[.int .i64 kd, .int .i64 fd, .int .i64 s0, .int .u32 s1, .bool b0, .slice A5 l5.length c5, .int .i64 s3, .slice A7 l7.length c7]) (r_loadN (vs := [.int .i64 kd, .int .i64 fd, .int .i64 s0, .int .u32 s1, .bool b0, .slice A5 l5.length c5, .int .i64 s3, .slice A7 l7.length c7]) sz_30 rfl (S4.blk 0 rfl) rfl rfl) ?_
 refine qo ?_
 refine e_call (args := [.agg #[.int .i64 kd, .int .i64 fd, .int .i64 s0, .int .u32 s1, .bool b0, .slice A5 l5.length c5, .int .i64 s3, .slice A7 l7.length c7]]) Try.func13 (by kernel_rfl) rfl rfl ?_
 refine (own_cut kd fd s0 s1 b0 A5 c5 l5 s3 A7 c7 l7 _ (Kd.C_below hr5 B5) hc5 (Kd.C_below hr7 B5) hc7).mono ?_
 rintro e w6 ⟨m5, m7, Ba5, da5, Ba7, da7, ⟨hm5, hm7⟩, hl5, hl7, rfl, ho5, ho7, hb⟩
 refine ⟨_, rfl, ?_⟩
 have B7 := hb
 have S8 := S4.call B7
 replace HT := tb HT B7
 replace HL := vb HL B7
 have HA5 := Aside0.mk ho5
 have HA7 := Aside0.mk ho7
 clear ho5 ho7
 have HBa := S4.ext.size
 rw [← hm7] at hR hT
 refine qo ?_
 refine e_store (vs := [.int .i64 kd, .int .i64 fd, .int .i64 s0, .int .u32 s1, .bool b0, .slice Ba5 m5.length da5, .int .i64 s3, .slice Ba7 m7.length da7]) (cs' := [.int .i64 kd, .int .i64 fd, .int .i64 s0, .int .u32 s1, .bool b0, .slice Ba5 m5.length da5, .int .i64 s3, .slice Ba7 m7.length da7]) S8 rfl rfl rfl rfl sz_30 0 rfl (.inl rfl) rfl rfl rfl ?_
 intro w9 S10 E11
 replace HA5 := rx HA5 E11 (S8.blk 0 rfl)
 replace HA7 := rx HA7 E11 (S8.blk 0 rfl)
 replace HT := Aside0.mk (HT.out.move (fun k_ hk_ hl_ => E11.block k_ hl_ (fun e_ => by have o_ := S8.own _ (List.mem_of_getElem? (i := 0) rfl) rfl; try dsimp only at o_ e_; have b_ := hI.okN k_ hk_; omega)))
 replace HL := Aside0.mk (Kd.V_step HL.out (fun k_ hk_ hl_ => E11.block k_ hl_ (fun e_ => by have o_ := S8.own _ (List.mem_of_getElem? (i := 0) rfl) rfl; try dsimp only at o_ e_; have b_ := hI.PN k_ hk_; omega)))
 refine q_nil ?_
 refine x_seq ?_
 refine s_seq ?_
 refine s_region ?_
 refine qv (v := .agg #[.int .i64 kd, .int .i64 fd, .int .i64 s0, .int .u32 s1, .bool b0, .slice Ba5 m5.length da5, .int .i64 s3, .slice Ba7 m7.length da7]) (r_loadN (vs := [.int .i64 kd, .int .i64 fd, .int .i64 s0, .int .u32 s1, .bool b0, .slice Ba5 m5.length da5, .int .i64 s3, .slice Ba7 m7.length da7]) sz_30 rfl (S10.blk 0 rfl) rfl rfl) ?_
 refine qo ?_
 refine e_call (args := [.agg #[.int .i64 kd, .int .i64 fd, .int .i64 s0, .int .u32 s1, .bool b0, .slice Ba5 m5.length da5, .int .i64 s3, .slice Ba7 m7.length da7]]) Try.func13 (by kernel_rfl) rfl rfl ?_
 refine (own_same kd fd s0 s1 b0 Ba5 da5 m5 s3 Ba7 da7 m7 _ (R_C HA5.out).2 (R_C HA5.out).1 (R_C HA7.out).2 (R_C HA7.out).1 hl5 hl7).mono ?_
 rintro e w12 ⟨Be5, de5, Be7, de7, rfl, ho5, ho7, hb⟩
 refine ⟨_, rfl, ?_⟩
 have B13 := hb
 have S14 := S10.call B13
 replace HA5 := rb HA5 B13
 replace HA7 := rb HA7 B13
 replace HT := tb HT B13
 replace HL := vb HL B13
 have HE5 := Aside0.mk ho5
 have HE7 := Aside0.mk ho7
 clear ho5 ho7
 refine qo ?_
 refine e_alloc S14 zro_30 ?_
 intro g15 w16 hg15 S17 B18
 replace HA5 := rb HA5 B18
 replace HA7 := rb HA7 B18
 replace HE5 := rb HE5 B18
 replace HE7 := rb HE7 B18
 replace HT := tb HT B18
 replace HL := vb HL B18
 refine qo ?_
 refine e_store (vs := [.int .i64 kd, .int .i64 fd, .int .i64 s0, .int .u32 s1, .bool b0, .slice Be5 m5.length de5, .int .i64 s3, .slice Be7 m7.length de7]) (cs' := [.int .i64 kd, .int .i64 fd, .int .i64 s0, .int .u32 s1, .bool b0, .slice Be5 m5.length de5, .int .i64 s3, .slice Be7 m7.length de7]) S17 rfl rfl rfl rfl sz_30 0 rfl (.inl rfl) rfl rfl rfl ?_
 intro w19 S20 E21
 replace HA5 := rx HA5 E21 (S17.blk 0 rfl)
 replace HA7 := rx HA7 E21 (S17.blk 0 rfl)
 replace HE5 := rx HE5 E21 (S17.blk 0 rfl)
 replace HE7 := rx HE7 E21 (S17.blk 0 rfl)
 replace HT := Aside0.mk (HT.out.move (fun k_ hk_ hl_ => E21.block k_ hl_ (fun e_ => by have o_ := S17.own _ (List.mem_of_getElem? (i := 0) rfl) rfl; try dsimp only at o_ e_; have b_ := hI.okN k_ hk_; omega)))
 replace HL := Aside0.mk (Kd.V_step HL.out (fun k_ hk_ hl_ => E21.block k_ hl_ (fun e_ => by have o_ := S17.own _ (List.mem_of_getElem? (i := 0) rfl) rfl; try dsimp only at o_ e_; have b_ := hI.PN k_ hk_; omega)))
 refine q_nil ?_
 refine x_seq ?_
 refine s_seq ?_
 refine s_seq ?_
 refine s_region ?_
 refine qv (v := .pointer (some ⟨g2, 0, none⟩)) (r_field fld_30_0 rfl rfl) ?_
 refine qv (v := .int .i64 kd) (r_load1 sz_3 rfl (S20.cell 1 rfl rfl)) ?_
 refine q_nil ?_
 refine x_seq ?_
 refine s_block ?_
 refine s_seq ?_
 refine s_region ?_
 refine qv (v := .bool false) (r_eql rfl rfl (beq_f (by omega))) ?_
 refine qv (v := .bool false) (r_assign rfl) ?_
 refine q_nil ?_
 refine x_seq ?_
 refine s_false rfl ?_
 refine s_seq ?_
 refine s_region ?_
 refine qv (v := .bool false) (r_eql rfl rfl (beq_f (by omega))) ?_
 refine qv (v := .bool false) (r_assign rfl) ?_
 refine q_nil ?_
 refine x_seq ?_
 refine s_false rfl ?_
 refine s_seq ?_
 refine s_region ?_
 refine qv (v := .bool false) (r_eql rfl rfl (beq_f (by omega))) ?_
 refine qv (v := .bool false) (r_assign rfl) ?_
 refine q_nil ?_
 refine x_seq ?_
 refine s_false rfl ?_
 refine s_seq ?_
 refine s_region ?_
 refine qv (v := .bool true) (r_eql rfl rfl (beq_t (by omega))) ?_
 refine qv (v := .bool true) (r_assign rfl) ?_
 refine q_nil ?_
 refine x_seq ?_
 refine s_true rfl ?_
 refine s_seq ?_
 refine s_region ?_
 refine qv (v := .slice (some ad) ((ls ss).length) c) (r_move rfl) ?_
 refine qv (v := .pointer (some ⟨g2, 1, none⟩)) (r_field fld_30_1 rfl rfl) ?_
 refine qv (v := .int .i64 fd) (r_load1 sz_3 rfl (S20.cell 1 rfl rfl)) ?_
 refine qv (v := .pointer (some ⟨g2, 7, none⟩)) (r_field fld_30_3 rfl rfl) ?_
 refine qv (v := .slice Ba7 m7.length da7) (r_load1 sz_24 rfl (S20.cell 1 rfl rfl)) ?_
 refine qo ?_
 refine e_call (args := [.slice (some ad) ((ls ss).length) c, .int .i64 fd, .slice Ba7 m7.length da7]) Try.func46 (by kernel_rfl) rfl rfl ?_
 refine (hR _ HL.out (fun k_ hk_ => Nat.lt_of_lt_of_le (hI.PN k_ hk_) S20.ext.size) Ba7 da7 (R_C HA7.out).2 (R_C HA7.out).1).mono ?_
 rintro e w22 ⟨rfl, hb⟩
 refine ⟨_, rfl, ?_⟩
 have B23 := hb
 have S24 := S20.call B23
 replace HA5 := rb HA5 B23
 replace HA7 := rb HA7 B23
 replace HE5 := rb HE5 B23
 replace HE7 := rb HE7 B23
 replace HT := tb HT B23
 replace HL := vb HL B23
 refine qv (v := .tuple #[.slice (some ad) ((ls ss).length) c, .int .i64 e]) (r_move rfl) ?_
 refine qv (v := .slice (some ad) ((ls ss).length) c) (r_extract rfl rfl) ?_
 refine qv (v := .int .i64 e) (r_extract rfl rfl) ?_
 refine qv (v := .slice (some ad) ((ls ss).length) c) (r_assign rfl) ?_
 refine qv (v := .int .i64 e) (r_assign rfl) ?_
 refine q_nil ?_
 refine x_seq ?_
 refine s_seq ?_
 refine s_region ?_
 refine qv (v := .slice (some ad) ((ls ss).length) c) (r_move rfl) ?_
 refine qv (v := .pointer (some ⟨g, 0, none⟩)) (r_move rfl) ?_
 refine qv (v := .pointer (some ⟨g15, 1, none⟩)) (r_field fld_30_1 rfl rfl) ?_
 refine qv (v := .int .i64 fd) (r_load1 sz_3 rfl (S24.cell 0 rfl rfl)) ?_
 refine qv (v := .pointer (some ⟨g15, 7, none⟩)) (r_field fld_30_3 rfl rfl) ?_
 refine qv (v := .slice Be7 m7.length de7) (r_load1 sz_24 rfl (S24.cell 0 rfl rfl)) ?_
 refine qo ?_
 refine e_call (args := [.pointer (some ⟨g, 0, none⟩), .int .i64 fd, .slice Be7 m7.length de7]) Try.func15 (by kernel_rfl) rfl rfl ?_
 refine (hT _ HT.out Be7 de7 (R_C HE7.out).2 (R_C HE7.out).1).mono ?_
 rintro e w25 ⟨rfl, hb⟩
 refine ⟨_, rfl, ?_⟩
 have B26 := hb
 have S27 := S24.call B26
 replace HA5 := rb HA5 B26
 replace HA7 := rb HA7 B26
 replace HE5 := rb HE5 B26
 replace HE7 := rb HE7 B26
 replace HT := tb HT B26
 replace HL := vb HL B26
 refine qv (v := .int .i64 e) (r_move rfl) ?_
 refine qv (v := .bool true) (r_eql rfl rfl (beq_t (rfl))) ?_
 refine qv (v := .slice (some ad) ((ls ss).length) c) (r_assign rfl) ?_
 refine qv (v := .bool true) (r_assign rfl) ?_
 refine q_nil ?_
 refine x_seq ?_
 refine s_ret ?_
 refine x_blk_ret ?_
 refine x_seq_ret ?_
 refine t_ret2 (v := .slice (some ad) ((ls ss).length) c) (v' := .bool true) rfl rfl rfl ?_
 exact post_same hI S27.ext HT.out HL.out
set_option maxHeartbeats 8000000 in
set_option maxRecDepth 100000 in
theorem Does_LimitFcntls_no {w : World} {b g p : Nat} {ok : Nat → Prop} {qs : List (Option Nat)} {ss : List (Option Slot)} {P : Nat → Prop} {ad : Addr} {c : Nat} (hI : DInv w b g p ok qs ss P ad c) (kd fd s0 s1 : Int) (b0 : Bool) (A5 : Option Addr) (c5 : Nat) (l5 : List Int) (s3 : Int) (A7 : Option Addr) (c7 : Nat) (l7 : List Int) (hr5 : Kd.C (Kd.int .i64) w A5 l5.length l5) (hc5 : l5.length ≤ c5) (hr7 : Kd.C (Kd.int .i64) w A7 l7.length l7) (hc7 : l7.length ≤ c7) (hk : kd = 5) (e : Int) (hR : ∀ w'', LV w'' P ad c (ls ss) → (∀ k, P k → k < w''.heap.size) → Calls Try.prog 47 #[.slice (some ad) ((ls ss).length) c, .int .i64 fd, .int .i64 s3] w'' fun e' w' => e' = .returned (.tuple #[.slice (some ad) ((ls ss).length) c, .int .i64 e]) ∧ Below w''.heap.size w'' w') (hT : ∀ w'', TabAt w'' b ok g p qs ss → Calls Try.prog 16 #[.pointer (some ⟨g, 0, none⟩), .int .i64 fd, .int .i64 s3] w'' fun e' w' => e' = .returned (.int .i64 e) ∧ Below w''.heap.size w'' w') : Calls Try.prog 19 #[.pointer (some ⟨g, 0, none⟩), .slice (some ad) ((ls ss).length) c, .agg #[.int .i64 kd, .int .i64 fd, .int .i64 s0, .int .u32 s1, .bool b0, .slice A5 l5.length c5, .int .i64 s3, .slice A7 l7.length c7]] w (Post w b g p ok ss.length P) := by
 have HT := Aside0.mk hI.T
 have HL := Aside0.mk hI.L
 have hll := ls_len ss
 have hfew := hI.few
 have hqs := hI.T.len
 refine s_enter (n := 233) (L := [(0, .pointer (some ⟨g, 0, none⟩)), (1, .slice (some ad) ((ls ss).length) c), (2, .agg #[.int .i64 kd, .int .i64 fd, .int .i64 s0, .int .u32 s1, .bool b0, .slice A5 l5.length c5, .int .i64 s3, .slice A7 l7.length c7])]) Try.func19 rfl rfl rfl rfl ?_
 have S1 := St.start w (ok)
 refine s_seq ?_
 refine s_region ?_
 refine qo ?_
 refine e_box (cs := [.int .i64 kd, .int .i64 fd, .int .i64 s0, .int .u32 s1, .bool b0, .slice A5 l5.length c5, .int .i64 s3, .slice A7 l7.length c7]) S1 rfl rfl ?_
 intro g2 w3 hg2 S4 B5
 replace HT := tb HT B5
 replace HL := vb HL B5
 refine qv (v := .slice none 0 0) (r_assign rfl) ?_
 refine qv (v := .bool false) (r_assign rfl) ?_
 refine q_nil ?_
 refine x_seq ?_
 refine s_seq ?_
 refine s_region ?_
 refine qv (v := .agg #[.int .i64 kd, .int .i64 fd, .int .i64 s0, .int .u32 s1, .bool b0, .slice A5 l5.length c5, .int .i64 s3, .slice A7 l7.length c7]) (r_loadN (vs := [.int .i64 kd, .int .i64 fd, .int .i64 s0, .int .u32 s1, .bool b0, .slice A5 l5.length c5, .int .i64 s3, .slice A7 l7.length c7]) sz_30 rfl (S4.blk 0 rfl) rfl rfl) ?_
 refine qo ?_
 refine e_call (args := [.agg #[.int .i64 kd, .int .i64 fd, .int .i64 s0, .int .u32 s1, .bool b0, .slice A5 l5.length c5, .int .i64 s3, .slice A7 l7.length c7]]) Try.func13 (by kernel_rfl) rfl rfl ?_
 refine (own_cut kd fd s0 s1 b0 A5 c5 l5 s3 A7 c7 l7 _ (Kd.C_below hr5 B5) hc5 (Kd.C_below hr7 B5) hc7).mono ?_
 rintro e w6 ⟨m5, m7, Ba5, da5, Ba7, da7, ⟨hm5, hm7⟩, hl5, hl7, rfl, ho5, ho7, hb⟩
 refine ⟨_, rfl, ?_⟩
 have B7 := hb
 have S8 := S4.call B7
 replace HT := tb HT B7
 replace HL := vb HL B7
 have HA5 := Aside0.mk ho5
 have HA7 := Aside0.mk ho7
 clear ho5 ho7
 have HBa := S4.ext.size
 refine qo ?_
 refine e_store (vs := [.int .i64 kd, .int .i64 fd, .int .i64 s0, .int .u32 s1, .bool b0, .slice Ba5 m5.length da5, .int .i64 s3, .slice Ba7 m7.length da7]) (cs' := [.int .i64 kd, .int .i64 fd, .int .i64 s0, .int .u32 s1, .bool b0, .slice Ba5 m5.length da5, .int .i64 s3, .slice Ba7 m7.length da7]) S8 rfl rfl rfl rfl sz_30 0 rfl (.inl rfl) rfl rfl rfl ?_
 intro w9 S10 E11
 replace HA5 := rx HA5 E11 (S8.blk 0 rfl)
 replace HA7 := rx HA7 E11 (S8.blk 0 rfl)
 replace HT := Aside0.mk (HT.out.move (fun k_ hk_ hl_ => E11.block k_ hl_ (fun e_ => by have o_ := S8.own _ (List.mem_of_getElem? (i := 0) rfl) rfl; try dsimp only at o_ e_; have b_ := hI.okN k_ hk_; omega)))
 replace HL := Aside0.mk (Kd.V_step HL.out (fun k_ hk_ hl_ => E11.block k_ hl_ (fun e_ => by have o_ := S8.own _ (List.mem_of_getElem? (i := 0) rfl) rfl; try dsimp only at o_ e_; have b_ := hI.PN k_ hk_; omega)))
 refine q_nil ?_
 refine x_seq ?_
 refine s_seq ?_
 refine s_region ?_
 refine qv (v := .agg #[.int .i64 kd, .int .i64 fd, .int .i64 s0, .int .u32 s1, .bool b0, .slice Ba5 m5.length da5, .int .i64 s3, .slice Ba7 m7.length da7]) (r_loadN (vs := [.int .i64 kd, .int .i64 fd, .int .i64 s0, .int .u32 s1, .bool b0, .slice Ba5 m5.length da5, .int .i64 s3, .slice Ba7 m7.length da7]) sz_30 rfl (S10.blk 0 rfl) rfl rfl) ?_
 refine qo ?_
 refine e_call (args := [.agg #[.int .i64 kd, .int .i64 fd, .int .i64 s0, .int .u32 s1, .bool b0, .slice Ba5 m5.length da5, .int .i64 s3, .slice Ba7 m7.length da7]]) Try.func13 (by kernel_rfl) rfl rfl ?_
 refine (own_same kd fd s0 s1 b0 Ba5 da5 m5 s3 Ba7 da7 m7 _ (R_C HA5.out).2 (R_C HA5.out).1 (R_C HA7.out).2 (R_C HA7.out).1 hl5 hl7).mono ?_
 rintro e w12 ⟨Be5, de5, Be7, de7, rfl, ho5, ho7, hb⟩
 refine ⟨_, rfl, ?_⟩
 have B13 := hb
 have S14 := S10.call B13
 replace HA5 := rb HA5 B13
 replace HA7 := rb HA7 B13
 replace HT := tb HT B13
 replace HL := vb HL B13
 have HE5 := Aside0.mk ho5
 have HE7 := Aside0.mk ho7
 clear ho5 ho7
 refine qo ?_
 refine e_alloc S14 zro_30 ?_
 intro g15 w16 hg15 S17 B18
 replace HA5 := rb HA5 B18
 replace HA7 := rb HA7 B18
 replace HE5 := rb HE5 B18
 replace HE7 := rb HE7 B18
 replace HT := tb HT B18
 replace HL := vb HL B18
 refine qo ?_
 refine e_store (vs := [.int .i64 kd, .int .i64 fd, .int .i64 s0, .int .u32 s1, .bool b0, .slice Be5 m5.length de5, .int .i64 s3, .slice Be7 m7.length de7]) (cs' := [.int .i64 kd, .int .i64 fd, .int .i64 s0, .int .u32 s1, .bool b0, .slice Be5 m5.length de5, .int .i64 s3, .slice Be7 m7.length de7]) S17 rfl rfl rfl rfl sz_30 0 rfl (.inl rfl) rfl rfl rfl ?_
 intro w19 S20 E21
 replace HA5 := rx HA5 E21 (S17.blk 0 rfl)
 replace HA7 := rx HA7 E21 (S17.blk 0 rfl)
 replace HE5 := rx HE5 E21 (S17.blk 0 rfl)
 replace HE7 := rx HE7 E21 (S17.blk 0 rfl)
 replace HT := Aside0.mk (HT.out.move (fun k_ hk_ hl_ => E21.block k_ hl_ (fun e_ => by have o_ := S17.own _ (List.mem_of_getElem? (i := 0) rfl) rfl; try dsimp only at o_ e_; have b_ := hI.okN k_ hk_; omega)))
 replace HL := Aside0.mk (Kd.V_step HL.out (fun k_ hk_ hl_ => E21.block k_ hl_ (fun e_ => by have o_ := S17.own _ (List.mem_of_getElem? (i := 0) rfl) rfl; try dsimp only at o_ e_; have b_ := hI.PN k_ hk_; omega)))
 refine q_nil ?_
 refine x_seq ?_
 refine s_seq ?_
 refine s_seq ?_
 refine s_region ?_
 refine qv (v := .pointer (some ⟨g2, 0, none⟩)) (r_field fld_30_0 rfl rfl) ?_
 refine qv (v := .int .i64 kd) (r_load1 sz_3 rfl (S20.cell 1 rfl rfl)) ?_
 refine q_nil ?_
 refine x_seq ?_
 refine s_block ?_
 refine s_seq ?_
 refine s_region ?_
 refine qv (v := .bool false) (r_eql rfl rfl (beq_f (by omega))) ?_
 refine qv (v := .bool false) (r_assign rfl) ?_
 refine q_nil ?_
 refine x_seq ?_
 refine s_false rfl ?_
 refine s_seq ?_
 refine s_region ?_
 refine qv (v := .bool false) (r_eql rfl rfl (beq_f (by omega))) ?_
 refine qv (v := .bool false) (r_assign rfl) ?_
 refine q_nil ?_
 refine x_seq ?_
 refine s_false rfl ?_
 refine s_seq ?_
 refine s_region ?_
 refine qv (v := .bool false) (r_eql rfl rfl (beq_f (by omega))) ?_
 refine qv (v := .bool false) (r_assign rfl) ?_
 refine q_nil ?_
 refine x_seq ?_
 refine s_false rfl ?_
 refine s_seq ?_
 refine s_region ?_
 refine qv (v := .bool false) (r_eql rfl rfl (beq_f (by omega))) ?_
 refine qv (v := .bool false) (r_assign rfl) ?_
 refine q_nil ?_
 refine x_seq ?_
 refine s_false rfl ?_
 refine s_seq ?_
 refine s_region ?_
 refine qv (v := .bool true) (r_eql rfl rfl (beq_t (by omega))) ?_
 refine qv (v := .bool true) (r_assign rfl) ?_
 refine q_nil ?_
 refine x_seq ?_
 refine s_true rfl ?_
 refine s_seq ?_
 refine s_region ?_
 refine qv (v := .slice (some ad) ((ls ss).length) c) (r_move rfl) ?_
 refine qv (v := .pointer (some ⟨g2, 1, none⟩)) (r_field fld_30_1 rfl rfl) ?_
 refine qv (v := .int .i64 fd) (r_load1 sz_3 rfl (S20.cell 1 rfl rfl)) ?_
 refine qv (v := .pointer (some ⟨g2, 2, none⟩)) (r_field fld_30_2 rfl rfl) ?_
 refine qv (v := .pointer (some ⟨g2, 6, none⟩)) (r_field fld_28_3 rfl rfl) ?_
 refine qv (v := .int .i64 s3) (r_load1 sz_3 rfl (S20.cell 1 rfl rfl)) ?_
 refine qo ?_
 refine e_call (args := [.slice (some ad) ((ls ss).length) c, .int .i64 fd, .int .i64 s3]) Try.func47 (by kernel_rfl) rfl rfl ?_
 refine (hR _ HL.out (fun k_ hk_ => Nat.lt_of_lt_of_le (hI.PN k_ hk_) S20.ext.size)).mono ?_
 rintro e w22 ⟨rfl, hb⟩
 refine ⟨_, rfl, ?_⟩
 have B23 := hb
 have S24 := S20.call B23
 replace HA5 := rb HA5 B23
 replace HA7 := rb HA7 B23
 replace HE5 := rb HE5 B23
 replace HE7 := rb HE7 B23
 replace HT := tb HT B23
 replace HL := vb HL B23
 refine qv (v := .tuple #[.slice (some ad) ((ls ss).length) c, .int .i64 e]) (r_move rfl) ?_
 refine qv (v := .slice (some ad) ((ls ss).length) c) (r_extract rfl rfl) ?_
 refine qv (v := .int .i64 e) (r_extract rfl rfl) ?_
 refine qv (v := .slice (some ad) ((ls ss).length) c) (r_assign rfl) ?_
 refine qv (v := .int .i64 e) (r_assign rfl) ?_
 refine q_nil ?_
 refine x_seq ?_
 refine s_seq ?_
 refine s_region ?_
 refine qv (v := .slice (some ad) ((ls ss).length) c) (r_move rfl) ?_
 refine qv (v := .pointer (some ⟨g, 0, none⟩)) (r_move rfl) ?_
 refine qv (v := .pointer (some ⟨g15, 1, none⟩)) (r_field fld_30_1 rfl rfl) ?_
 refine qv (v := .int .i64 fd) (r_load1 sz_3 rfl (S24.cell 0 rfl rfl)) ?_
 refine qv (v := .pointer (some ⟨g15, 2, none⟩)) (r_field fld_30_2 rfl rfl) ?_
 refine qv (v := .pointer (some ⟨g15, 6, none⟩)) (r_field fld_28_3 rfl rfl) ?_
 refine qv (v := .int .i64 s3) (r_load1 sz_3 rfl (S24.cell 0 rfl rfl)) ?_
 refine qo ?_
 refine e_call (args := [.pointer (some ⟨g, 0, none⟩), .int .i64 fd, .int .i64 s3]) Try.func16 (by kernel_rfl) rfl rfl ?_
 refine (hT _ HT.out).mono ?_
 rintro e w25 ⟨rfl, hb⟩
 refine ⟨_, rfl, ?_⟩
 have B26 := hb
 have S27 := S24.call B26
 replace HA5 := rb HA5 B26
 replace HA7 := rb HA7 B26
 replace HE5 := rb HE5 B26
 replace HE7 := rb HE7 B26
 replace HT := tb HT B26
 replace HL := vb HL B26
 refine qv (v := .int .i64 e) (r_move rfl) ?_
 refine qv (v := .bool true) (r_eql rfl rfl (beq_t (rfl))) ?_
 refine qv (v := .slice (some ad) ((ls ss).length) c) (r_assign rfl) ?_
 refine qv (v := .bool true) (r_assign rfl) ?_
 refine q_nil ?_
 refine x_seq ?_
 refine s_ret ?_
 refine x_blk_ret ?_
 refine x_seq_ret ?_
 refine t_ret2 (v := .slice (some ad) ((ls ss).length) c) (v' := .bool true) rfl rfl rfl ?_
 exact post_same hI S27.ext HT.out HL.out
end Go.Proofs.Ytilfalpfanaanaa.PA

namespace Go.Proofs.Ytilfalpfanaanaa.PA
open Go.RowKit Go.Proofs.YtilfalpfanaanaaW.PrintWords Go.Proofs.YtilfalpfanaanaaW.PrintLast Go.Proofs.YtilfalpfanaanaaW.PrintMore Go.Proofs.Ytilfalpfanaanaa.Sx
set_option maxHeartbeats 8000000 in
set_option maxRecDepth 100000 in
theorem Does_set_none {w : World} {b g p : Nat} {ok : Nat → Prop} {qs : List (Option Nat)} {ss : List (Option Slot)} {P : Nat → Prop} {ad : Addr} {c : Nat} (hI : DInv w b g p ok qs ss P ad c) (kd fd s0 s1 : Int) (b0 : Bool) (A5 : Option Addr) (c5 : Nat) (l5 : List Int) (s3 : Int) (A7 : Option Addr) (c7 : Nat) (l7 : List Int) (hr5 : Kd.C (Kd.int .i64) w A5 l5.length l5) (hc5 : l5.length ≤ c5) (hr7 : Kd.C (Kd.int .i64) w A7 l7.length l7) (hc7 : l7.length ≤ c7) (hk : kd = 1) (hcan : canS (⟨s0, s1, ⟨b0, cut50 l5⟩, s3⟩ : Slot) = true) (hs1 : 0 ≤ s1) (h0 : 0 ≤ fd) (hs : ss[fd.toNat]? = some none) : Calls Try.prog 19 #[.pointer (some ⟨g, 0, none⟩), .slice (some ad) ((ls ss).length) c, .agg #[.int .i64 kd, .int .i64 fd, .int .i64 s0, .int .u32 s1, .bool b0, .slice A5 l5.length c5, .int .i64 s3, .slice A7 l7.length c7]] w (Post w b g p ok ss.length P) := by
 have HT := Aside0.mk hI.T
 have HL := Aside0.mk hI.L
 have hll := ls_len ss
 have hfew := hI.few
 have hqs := hI.T.len
 obtain ⟨ob, hob⟩ := LV_ob hI.L (by omega)
 obtain ⟨A3, c3, hcell, h3, hF⟩ := LV_at hI.L h0 hs
 have HR := Aside0.mk (show Kd.V (Kd.int .i64) 3 w 0 P (.slice A3 (toS none).f2.f1.length c3) (toS none).f2.f1 from Kd.V_mk h3 hF)
 have S0 := St.add (St.start w ok) hob (fun x hx => by cases hx)
 refine s_enter (n := 233) (L := [(0, .pointer (some ⟨g, 0, none⟩)), (1, .slice (some ad) ((ls ss).length) c), (2, .agg #[.int .i64 kd, .int .i64 fd, .int .i64 s0, .int .u32 s1, .bool b0, .slice A5 l5.length c5, .int .i64 s3, .slice A7 l7.length c7])]) Try.func19 rfl rfl rfl rfl ?_
 refine s_seq ?_
 refine s_region ?_
 refine qo ?_
 refine e_box (cs := [.int .i64 kd, .int .i64 fd, .int .i64 s0, .int .u32 s1, .bool b0, .slice A5 l5.length c5, .int .i64 s3, .slice A7 l7.length c7]) S0 rfl rfl ?_
 intro g1 w2 hg1 S3 B4
 replace HT := tb HT B4
 replace HL := vb HL B4
 replace HR := vb HR B4
 refine qv (v := .slice none 0 0) (r_assign rfl) ?_
 refine qv (v := .bool false) (r_assign rfl) ?_
 refine q_nil ?_
 refine x_seq ?_
 refine s_seq ?_
 refine s_region ?_
 refine qv (v := .agg #[.int .i64 kd, .int .i64 fd, .int .i64 s0, .int .u32 s1, .bool b0, .slice A5 l5.length c5, .int .i64 s3, .slice A7 l7.length c7]) (r_loadN (vs := [.int .i64 kd, .int .i64 fd, .int .i64 s0, .int .u32 s1, .bool b0, .slice A5 l5.length c5, .int .i64 s3, .slice A7 l7.length c7]) sz_30 rfl (S3.blk 0 rfl) rfl rfl) ?_
 refine qo ?_
 refine e_call (args := [.agg #[.int .i64 kd, .int .i64 fd, .int .i64 s0, .int .u32 s1, .bool b0, .slice A5 l5.length c5, .int .i64 s3, .slice A7 l7.length c7]]) Try.func13 (by kernel_rfl) rfl rfl ?_
 refine (own_cut kd fd s0 s1 b0 A5 c5 l5 s3 A7 c7 l7 _ (Kd.C_below hr5 B4) hc5 (Kd.C_below hr7 B4) hc7).mono ?_
 rintro e w5 ⟨m5, m7, Ba5, da5, Ba7, da7, ⟨hm5, hm7⟩, hl5, hl7, rfl, ho5, ho7, hb⟩
 refine ⟨_, rfl, ?_⟩
 have B6 := hb
 have S7 := S3.call B6
 replace HT := tb HT B6
 replace HL := vb HL B6
 replace HR := vb HR B6
 have HA5 := Aside0.mk ho5
 have HA7 := Aside0.mk ho7
 clear ho5 ho7
 have HBa := S3.ext.size
 rw [← hm5] at hcan
 have hlt := get_lt hs
 refine qo ?_
 refine e_store (vs := [.int .i64 kd, .int .i64 fd, .int .i64 s0, .int .u32 s1, .bool b0, .slice Ba5 m5.length da5, .int .i64 s3, .slice Ba7 m7.length da7]) (cs' := [.int .i64 kd, .int .i64 fd, .int .i64 s0, .int .u32 s1, .bool b0, .slice Ba5 m5.length da5, .int .i64 s3, .slice Ba7 m7.length da7]) S7 rfl rfl rfl rfl sz_30 0 rfl (.inl rfl) rfl rfl rfl ?_
 intro w8 S9 E10
 replace HA5 := rx HA5 E10 (S7.blk 0 rfl)
 replace HA7 := rx HA7 E10 (S7.blk 0 rfl)
 replace HT := Aside0.mk (HT.out.move (fun k_ hk_ hl_ => E10.block k_ hl_ (fun e_ => by have o_ := S7.own _ (List.mem_of_getElem? (i := 0) rfl) rfl; try dsimp only at o_ e_; have b_ := hI.okN k_ hk_; omega)))
 replace HL := Aside0.mk (Kd.V_step HL.out (fun k_ hk_ hl_ => E10.block k_ hl_ (fun e_ => by have o_ := S7.own _ (List.mem_of_getElem? (i := 0) rfl) rfl; try dsimp only at o_ e_; have b_ := hI.PN k_ hk_; omega)))
 replace HR := Aside0.mk (Kd.V_step HR.out (fun k_ hk_ hl_ => E10.block k_ hl_ (fun e_ => by have o_ := S7.own _ (List.mem_of_getElem? (i := 0) rfl) rfl; try dsimp only at o_ e_; have b_ := hI.PN k_ hk_; omega)))
 refine q_nil ?_
 refine x_seq ?_
 refine s_seq ?_
 refine s_region ?_
 refine qv (v := .agg #[.int .i64 kd, .int .i64 fd, .int .i64 s0, .int .u32 s1, .bool b0, .slice Ba5 m5.length da5, .int .i64 s3, .slice Ba7 m7.length da7]) (r_loadN (vs := [.int .i64 kd, .int .i64 fd, .int .i64 s0, .int .u32 s1, .bool b0, .slice Ba5 m5.length da5, .int .i64 s3, .slice Ba7 m7.length da7]) sz_30 rfl (S9.blk 0 rfl) rfl rfl) ?_
 refine qo ?_
 refine e_call (args := [.agg #[.int .i64 kd, .int .i64 fd, .int .i64 s0, .int .u32 s1, .bool b0, .slice Ba5 m5.length da5, .int .i64 s3, .slice Ba7 m7.length da7]]) Try.func13 (by kernel_rfl) rfl rfl ?_
 refine (own_same kd fd s0 s1 b0 Ba5 da5 m5 s3 Ba7 da7 m7 _ (R_C HA5.out).2 (R_C HA5.out).1 (R_C HA7.out).2 (R_C HA7.out).1 hl5 hl7).mono ?_
 rintro e w11 ⟨Be5, de5, Be7, de7, rfl, ho5, ho7, hb⟩
 refine ⟨_, rfl, ?_⟩
 have B12 := hb
 have S13 := S9.call B12
 replace HA5 := rb HA5 B12
 replace HA7 := rb HA7 B12
 replace HT := tb HT B12
 replace HL := vb HL B12
 replace HR := vb HR B12
 have HE5 := Aside0.mk ho5
 have HE7 := Aside0.mk ho7
 clear ho5 ho7
 refine qo ?_
 refine e_alloc S13 zro_30 ?_
 intro g14 w15 hg14 S16 B17
 replace HA5 := rb HA5 B17
 replace HA7 := rb HA7 B17
 replace HE5 := rb HE5 B17
 replace HE7 := rb HE7 B17
 replace HT := tb HT B17
 replace HL := vb HL B17
 replace HR := vb HR B17
 refine qo ?_
 refine e_store (vs := [.int .i64 kd, .int .i64 fd, .int .i64 s0, .int .u32 s1, .bool b0, .slice Be5 m5.length de5, .int .i64 s3, .slice Be7 m7.length de7]) (cs' := [.int .i64 kd, .int .i64 fd, .int .i64 s0, .int .u32 s1, .bool b0, .slice Be5 m5.length de5, .int .i64 s3, .slice Be7 m7.length de7]) S16 rfl rfl rfl rfl sz_30 0 rfl (.inl rfl) rfl rfl rfl ?_
 intro w18 S19 E20
 replace HA5 := rx HA5 E20 (S16.blk 0 rfl)
 replace HA7 := rx HA7 E20 (S16.blk 0 rfl)
 replace HE5 := rx HE5 E20 (S16.blk 0 rfl)
 replace HE7 := rx HE7 E20 (S16.blk 0 rfl)
 replace HT := Aside0.mk (HT.out.move (fun k_ hk_ hl_ => E20.block k_ hl_ (fun e_ => by have o_ := S16.own _ (List.mem_of_getElem? (i := 0) rfl) rfl; try dsimp only at o_ e_; have b_ := hI.okN k_ hk_; omega)))
 replace HL := Aside0.mk (Kd.V_step HL.out (fun k_ hk_ hl_ => E20.block k_ hl_ (fun e_ => by have o_ := S16.own _ (List.mem_of_getElem? (i := 0) rfl) rfl; try dsimp only at o_ e_; have b_ := hI.PN k_ hk_; omega)))
 replace HR := Aside0.mk (Kd.V_step HR.out (fun k_ hk_ hl_ => E20.block k_ hl_ (fun e_ => by have o_ := S16.own _ (List.mem_of_getElem? (i := 0) rfl) rfl; try dsimp only at o_ e_; have b_ := hI.PN k_ hk_; omega)))
 refine q_nil ?_
 refine x_seq ?_
 refine s_seq ?_
 refine s_seq ?_
 refine s_region ?_
 refine qv (v := .pointer (some ⟨g1, 0, none⟩)) (r_field fld_30_0 rfl rfl) ?_
 refine qv (v := .int .i64 kd) (r_load1 sz_3 rfl (S19.cell 1 rfl rfl)) ?_
 refine q_nil ?_
 refine x_seq ?_
 refine s_block ?_
 refine s_seq ?_
 refine s_region ?_
 refine qv (v := .bool true) (r_eql rfl rfl (beq_t (by omega))) ?_
 refine qv (v := .bool true) (r_assign rfl) ?_
 refine q_nil ?_
 refine x_seq ?_
 refine s_true rfl ?_
 refine s_seq ?_
 refine s_region ?_
 refine qv (v := .pointer (some ⟨g, 0, none⟩)) (r_move rfl) ?_
 refine qv (v := .pointer (some ⟨g14, 1, none⟩)) (r_field fld_30_1 rfl rfl) ?_
 refine qv (v := .int .i64 fd) (r_load1 sz_3 rfl (S19.cell 0 rfl rfl)) ?_
 refine qv (v := .pointer (some ⟨g14, 2, none⟩)) (r_field fld_30_2 rfl rfl) ?_
 refine qv (v := .agg #[.int .i64 s0, .int .u32 s1, .bool b0, .slice Be5 m5.length de5, .int .i64 s3]) (r_loadN (vs := [.int .i64 s0, .int .u32 s1, .bool b0, .slice Be5 m5.length de5, .int .i64 s3]) sz_28 rfl (S19.blk 0 rfl) rfl rfl) ?_
 refine qo ?_
 refine e_call (args := [.pointer (some ⟨g, 0, none⟩), .int .i64 fd, .agg #[.int .i64 s0, .int .u32 s1, .bool b0, .slice Be5 m5.length de5, .int .i64 s3]]) Try.func29 (by kernel_rfl) rfl rfl ?_
 have zbg14 := heap_lt (S19.blk 0 rfl)
 have zog14 := S19.own _ (List.mem_of_getElem? (i := 0) rfl) rfl
 dsimp only at zbg14 zog14
 have zbg1 := heap_lt (S19.blk 1 rfl)
 have zog1 := S19.own _ (List.mem_of_getElem? (i := 1) rfl) rfl
 dsimp only at zbg1 zog1
 have zx_ := hI.okN _ hI.T.low.2.2.2
 have hw1_ := S19.ext.size
 have hne_ := LV_ne hI.L (by omega) hI.T.row
 replace HA5 := Aside0.mk (show Kd.R (Kd.int .i64) 3 w18 w2.heap.size (fun k_ => w2.heap.size ≤ k_ ∧ k_ < w18.heap.size) _ _ from Kd.R_mono (Kd.R_bound HA5.out) (fun k_ h_ => ⟨h_.2.1, h_.2.2.1⟩))
 obtain ⟨_, hblk_⟩ : ∃ cs_, w18.heap[p]? = some (.cells cs_ 71 (0, 0)) := ⟨_, HT.out.row⟩
 refine (Set_none (TabAt.mono HT.out (ok' := fun k => ok k ∨ w18.heap.size ≤ k) (fun k h => .inl h)) (fun k h => .inr h) fd h0 (tab_none hI.T hs) (⟨s0, s1, ⟨b0, m5⟩, s3⟩ : Slot) Be5 de5 (R_C HE5.out).2 (R_C HE5.out).1 200 (by rw [wcanS (⟨s0, s1, ⟨b0, m5⟩, s3⟩ : Slot) hl5, hcan]) (by show m5.length * 8 ≤ _; omega)).mono ?_
 rintro e w21 ⟨rfl, ⟨q3, hT3⟩, hE⟩
 refine ⟨_, rfl, ?_⟩
 have Sl_ : St w ok w18 [⟨g14, true, .cells #[.int .i64 kd, .int .i64 fd, .int .i64 s0, .int .u32 s1, .bool b0, .slice Be5 m5.length de5, .int .i64 s3, .slice Be7 m7.length de7] 30 (0, 0)⟩, ⟨g1, true, .cells #[.int .i64 kd, .int .i64 fd, .int .i64 s0, .int .u32 s1, .bool b0, .slice Ba5 m5.length da5, .int .i64 s3, .slice Ba7 m7.length da7] 30 (0, 0)⟩, ⟨ad.block, false, ob⟩] := S19
 have S22 := Sl_.callX hE (fun x_ hx_ e_ => by simp only [List.mem_cons, List.not_mem_nil, or_false] at hx_; rcases hx_ with rfl | rfl | rfl; all_goals ((try dsimp only at e_); omega)) (fun k_ h1_ h2_ => by (try dsimp only at h2_); rw [h2_]; exact hI.T.low.2.2.2)
 replace HA5 := rx HA5 hE hblk_
 replace HA7 := rx HA7 hE hblk_
 replace HE5 := rx HE5 hE hblk_
 replace HE7 := rx HE7 hE hblk_
 replace HL := Aside0.mk (Kd.V_step HL.out (fun k_ hk_ hl_ => hE.block k_ hl_ (fun e_ => by (try dsimp only at e_); rw [e_] at hk_; exact hI.D _ hI.T.low.2.2.2 hk_)))
 replace HR := Aside0.mk (Kd.V_step HR.out (fun k_ hk_ hl_ => hE.block k_ hl_ (fun e_ => by (try dsimp only at e_); rw [e_] at hk_; exact hI.D _ hI.T.low.2.2.2 hk_)))
 have hw2_ := hE.size
 clear HT
 have HT := Aside0.mk hT3.bound
 have HZ := Aside0.mk (Nat.le_refl w21.heap.size)
 have hokb : ∀ k, ((ok k ∨ w18.heap.size ≤ k) ∧ k < w21.heap.size) → k < w.heap.size ∨ (w18.heap.size ≤ k ∧ k < w21.heap.size) := fun k h => h.1.elim (fun h1 => .inl (hI.okN k h1)) (fun h1 => .inr ⟨h1, h.2⟩)
 clear hE hblk_ hT3
 refine qv (v := .tuple #[.agg #[.int .i64 0, .int .u32 0, .bool false, .slice none 0 0, .int .i64 0], .bool false, .int .i64 0]) (r_move rfl) ?_
 refine qv (v := .agg #[.int .i64 0, .int .u32 0, .bool false, .slice none 0 0, .int .i64 0]) (r_extract rfl rfl) ?_
 refine qv (v := .bool false) (r_extract rfl rfl) ?_
 refine qv (v := .int .i64 0) (r_extract rfl rfl) ?_
 refine qo ?_
 refine e_alloc S22 zro_28 ?_
 intro g23 w24 hg23 S25 B26
 have zag23 : w21.heap.size ≤ g23 := by have h_ := HZ.out; omega
 replace HA5 := rb HA5 B26
 replace HA7 := rb HA7 B26
 replace HE5 := rb HE5 B26
 replace HE7 := rb HE7 B26
 replace HT := tb HT B26
 replace HL := vb HL B26
 replace HR := vb HR B26
 replace HZ := zb HZ B26
 refine qo ?_
 refine e_store (vs := [.int .i64 0, .int .u32 0, .bool false, .slice none 0 0, .int .i64 0]) (cs' := [.int .i64 0, .int .u32 0, .bool false, .slice none 0 0, .int .i64 0]) S25 rfl rfl rfl rfl sz_28 0 rfl (.inl rfl) rfl rfl rfl ?_
 intro w27 S28 E29
 replace HA5 := rx HA5 E29 (S25.blk 0 rfl)
 replace HA7 := rx HA7 E29 (S25.blk 0 rfl)
 replace HE5 := rx HE5 E29 (S25.blk 0 rfl)
 replace HE7 := rx HE7 E29 (S25.blk 0 rfl)
 replace HT := Aside0.mk (HT.out.move (fun k_ hk_ hl_ => E29.block k_ hl_ (fun e_ => by have o_ := S25.own _ (List.mem_of_getElem? (i := 0) rfl) rfl; try dsimp only at o_ e_; have b_ := hokb k_ hk_; omega)))
 replace HL := Aside0.mk (Kd.V_step HL.out (fun k_ hk_ hl_ => E29.block k_ hl_ (fun e_ => by have o_ := S25.own _ (List.mem_of_getElem? (i := 0) rfl) rfl; try dsimp only at o_ e_; have b_ := hI.PN k_ hk_; omega)))
 replace HR := Aside0.mk (Kd.V_step HR.out (fun k_ hk_ hl_ => E29.block k_ hl_ (fun e_ => by have o_ := S25.own _ (List.mem_of_getElem? (i := 0) rfl) rfl; try dsimp only at o_ e_; have b_ := hI.PN k_ hk_; omega)))
 replace HZ := Aside0.mk (Nat.le_trans HZ.out E29.size)
 refine qv (v := .bool false) (r_assign rfl) ?_
 refine qv (v := .int .i64 0) (r_assign rfl) ?_
 refine q_nil ?_
 refine x_seq ?_
 refine s_seq ?_
 refine s_seq ?_
 refine s_region ?_
 refine qv (v := .pointer (some ⟨g1, 2, none⟩)) (r_field fld_30_2 rfl rfl) ?_
 refine qv (v := .agg #[.int .i64 s0, .int .u32 s1, .bool b0, .slice Ba5 m5.length da5, .int .i64 s3]) (r_loadN (vs := [.int .i64 s0, .int .u32 s1, .bool b0, .slice Ba5 m5.length da5, .int .i64 s3]) sz_28 rfl (S28.blk 2 rfl) rfl rfl) ?_
 refine qo ?_
 refine e_call (args := [.agg #[.int .i64 s0, .int .u32 s1, .bool b0, .slice Ba5 m5.length da5, .int .i64 s3]]) Try.func9 (by kernel_rfl) rfl rfl ?_
 refine (purlieuref13_Can.calls 200 s0 s1 b0 Ba5 da5 m5 s3 true _ (R_C HA5.out).2 (R_C HA5.out).1 (by rw [rcanS (⟨s0, s1, ⟨b0, m5⟩, s3⟩ : Slot) hl5, hcan])).mono ?_
 rintro e w30 ⟨rfl, hb⟩
 refine ⟨_, rfl, ?_⟩
 have B31 := hb
 have S32 := S28.call B31
 replace HA5 := rb HA5 B31
 replace HA7 := rb HA7 B31
 replace HE5 := rb HE5 B31
 replace HE7 := rb HE7 B31
 replace HT := tb HT B31
 replace HL := vb HL B31
 replace HR := vb HR B31
 replace HZ := zb HZ B31
 refine qv (v := .bool false) (r_not rfl rfl) ?_
 refine q_nil ?_
 refine x_seq ?_
 refine s_false rfl ?_
 refine s_skip ?_
 refine x_seq ?_
 refine s_seq ?_
 refine s_seq ?_
 refine s_region ?_
 refine qv (v := .pointer (some ⟨g1, 1, none⟩)) (r_field fld_30_1 rfl rfl) ?_
 refine qv (v := .int .i64 fd) (r_load1 sz_3 rfl (S32.cell 2 rfl rfl)) ?_
 refine qv (v := .bool false) (r_lss rfl rfl (decide_eq_false (by omega))) ?_
 refine qv (v := .bool false) (r_move rfl) ?_
 refine q_val (v := .pointer (some ⟨g1, 1, none⟩)) (wan rfl rfl rfl rfl) rfl (r_field fld_30_1 rfl rfl) ?_
 refine q_val (v := .int .i64 fd) (wan rfl rfl rfl rfl) rfl (r_load1 sz_3 rfl (S32.cell 2 rfl rfl)) ?_
 refine q_val (v := .slice (some ad) ((ls ss).length) c) (wan rfl rfl rfl rfl) rfl (r_move rfl) ?_
 refine q_val (v := .int .i64 (((ls ss).length : Nat) : Int)) (wan rfl rfl rfl rfl) rfl (r_len_slice elm_47 rfl) ?_
 refine q_val (v := .bool false) (wan rfl rfl rfl rfl) rfl (r_geq rfl rfl (decide_eq_false (by omega))) ?_
 refine qv (v := .bool false) (r_pick_f rfl rfl) ?_
 refine q_nil ?_
 refine x_seq ?_
 refine s_false rfl ?_
 refine s_skip ?_
 refine x_seq ?_
 refine s_seq ?_
 refine d_start mix (fun W => St w (ok) W [⟨g23, true, .cells #[.int .i64 0, .int .u32 0, .bool false, .slice none 0 0, .int .i64 0] 28 (0, 0)⟩, ⟨g14, true, .cells #[.int .i64 kd, .int .i64 fd, .int .i64 s0, .int .u32 s1, .bool b0, .slice Be5 m5.length de5, .int .i64 s3, .slice Be7 m7.length de7] 30 (0, 0)⟩, ⟨g1, true, .cells #[.int .i64 kd, .int .i64 fd, .int .i64 s0, .int .u32 s1, .bool b0, .slice Ba5 m5.length da5, .int .i64 s3, .slice Ba7 m7.length da7] 30 (0, 0)⟩, ⟨ad.block, false, ob⟩]) ?_
 have S33 := S32.draw
 have B35 := Below_drew w30
 generalize w30.drew = w34 at S33 B35 ⊢
 replace HA5 := rb HA5 B35
 replace HA7 := rb HA7 B35
 replace HE5 := rb HE5 B35
 replace HE7 := rb HE7 B35
 replace HT := tb HT B35
 replace HL := vb HL B35
 replace HR := vb HR B35
 replace HZ := zb HZ B35
 refine dt 30 1 (v := .slice (some ad) ((ls ss).length) c) 0 rfl rfl (wn rfl) (fun W hW => r_move rfl) S33 ?_
 refine dt 30 3 (v := .pointer (some ⟨g1, 1, none⟩)) 1 rfl rfl (wn rfl) (fun W hW => r_field fld_30_1 rfl rfl) S33 ?_
 refine dt 30 7 (v := .int .i64 fd) 2 rfl rfl (wn rfl) (fun W hW => r_load1 sz_3 rfl (hW.cell 2 rfl rfl)) S33 ?_
 refine dt 30 15 (v := .pointer (some ⟨g1, 2, none⟩)) 3 rfl rfl (wn rfl) (fun W hW => r_field fld_30_2 rfl rfl) S33 ?_
 refine dt 30 31 (v := .agg #[.int .i64 s0, .int .u32 s1, .bool b0, .slice Ba5 m5.length da5, .int .i64 s3]) 4 rfl rfl (wn rfl) (fun W hW => r_loadN (vs := [.int .i64 s0, .int .u32 s1, .bool b0, .slice Ba5 m5.length da5, .int .i64 s3]) sz_28 rfl (hW.blk 2 rfl) rfl rfl) S33 ?_
 refine dt 30 95 (v := .int .i64 0) 6 rfl rfl (wn rfl) (fun W hW => r_move rfl) S33 ?_
 refine dt 30 223 (v := .bool true) 7 rfl rfl (wn rfl) (fun W hW => r_eql rfl rfl (beq_t (by omega))) S33 ?_
 refine d1 30 255 5 rfl (wn rfl) ?_
 refine e_call (args := [.slice (some ad) ((ls ss).length) c, .int .i64 fd, .agg #[.int .i64 s0, .int .u32 s1, .bool b0, .slice Ba5 m5.length da5, .int .i64 s3]]) Try.func44 (by kernel_rfl) rfl rfl ?_
 have hV_ := (Kd.R_V (base' := 0) HA5.out)
 have hz3_ := HZ.out
 refine (With_ls HL.out (by omega) fd h0 (by omega) (some (⟨s0, s1, ⟨b0, m5⟩, s3⟩ : Slot)) hV_).mono ?_
 rintro e w36 ⟨ad2, c2, rfl, hL2, hb⟩
 refine ⟨_, rfl, ?_⟩
 have B37 := hb
 have S38 := S33.call B37
 replace HA5 := rb HA5 B37
 replace HA7 := rb HA7 B37
 replace HE5 := rb HE5 B37
 replace HE7 := rb HE7 B37
 replace HT := tb HT B37
 replace HL := vb HL B37
 replace HR := vb HR B37
 replace HZ := zb HZ B37
 have HL2 := Aside0.mk hL2
 refine ⟨S38, ?_⟩
 refine dt 30 511 (v := .bool true) 8 rfl rfl (wn rfl) (fun W hW => r_move rfl) S38 ?_
 refine dt 30 1023 (v := .bool false) 9 rfl rfl (wan rfl rfl rfl rfl) (fun W hW => r_move rfl) S38 ?_
 refine dt 30 2047 (v := .slice (some ad) ((ls ss).length) c) 10 rfl rfl (wan rfl rfl rfl rfl) (fun W hW => r_move rfl) S38 ?_
 refine dt 30 4095 (v := .pointer (some ⟨g1, 1, none⟩)) 11 rfl rfl (wan rfl rfl rfl rfl) (fun W hW => r_field fld_30_1 rfl rfl) S38 ?_
 refine dt 30 8191 (v := .int .i64 fd) 12 rfl rfl (wan rfl rfl rfl rfl) (fun W hW => r_load1 sz_3 rfl (hW.cell 2 rfl rfl)) S38 ?_
 refine dt 30 16383 (v := .pointer (some (ad.add (fd.toNat * 5)))) 13 rfl rfl (wan rfl rfl rfl rfl) (fun W hW => r_indexA elm_47 rfl rfl (by omega) (by omega) rfl) S38 ?_
 refine dt 30 32767 (v := .pointer (some (ad.add (fd.toNat * 5)))) 14 rfl rfl (wan rfl rfl rfl rfl) (fun W hW => r_fieldA fld_28_0 rfl rfl) S38 ?_
 refine dt 30 65535 (v := .int .i64 ((toS none).f0)) 15 rfl rfl (wan rfl rfl rfl rfl) (fun W hW => r_load1A sz_3 rfl (cells_raw (vs := [.int .i64 ((toS none).f0), .int .u32 ((toS none).f1), .bool ((toS none).f2.f0), .slice A3 ((toS none).f2.f1.length) c3, .int .i64 ((toS none).f3)]) rfl hob (hW.blk 3 rfl) hcell) rfl) S38 ?_
 refine dt 30 131071 (v := .bool false) 16 rfl rfl (wan rfl rfl rfl rfl) (fun W hW => r_gtr rfl rfl (decide_eq_false (by decide))) S38 ?_
 refine dt 30 262143 (v := .bool true) 17 rfl rfl (wan rfl rfl rfl rfl) (fun W hW => r_beql bol_4 rfl rfl rfl) S38 ?_
 refine dt 30 524287 (v := .bool true) 18 rfl rfl (wn rfl) (fun W hW => r_pick_t rfl rfl) S38 ?_
 refine dt 30 1048575 (v := .bool true) 19 rfl rfl (wn rfl) (fun W hW => r_move rfl) S38 ?_
 refine dt 30 2097151 (v := .agg #[.int .i64 0, .int .u32 0, .bool false, .slice none 0 0, .int .i64 0]) 20 rfl rfl (wan rfl rfl rfl rfl) (fun W hW => r_loadN (vs := [.int .i64 0, .int .u32 0, .bool false, .slice none 0 0, .int .i64 0]) sz_28 rfl (hW.blk 0 rfl) rfl rfl) S38 ?_
 refine dt 30 4194303 (v := .slice (some ad) ((ls ss).length) c) 21 rfl rfl (wan rfl rfl rfl rfl) (fun W hW => r_move rfl) S38 ?_
 refine dt 30 8388607 (v := .pointer (some ⟨g1, 1, none⟩)) 22 rfl rfl (wan rfl rfl rfl rfl) (fun W hW => r_field fld_30_1 rfl rfl) S38 ?_
 refine dt 30 16777215 (v := .int .i64 fd) 23 rfl rfl (wan rfl rfl rfl rfl) (fun W hW => r_load1 sz_3 rfl (hW.cell 2 rfl rfl)) S38 ?_
 refine dt 30 33554431 (v := .pointer (some (ad.add (fd.toNat * 5)))) 24 rfl rfl (wan rfl rfl rfl rfl) (fun W hW => r_indexA elm_47 rfl rfl (by omega) (by omega) rfl) S38 ?_
 refine dt 30 67108863 (v := .agg #[.int .i64 ((toS none).f0), .int .u32 ((toS none).f1), .bool ((toS none).f2.f0), .slice A3 ((toS none).f2.f1.length) c3, .int .i64 ((toS none).f3)]) 25 rfl rfl (wan rfl rfl rfl rfl) (fun W hW => r_loadNA sz_28 rfl rfl (cells_raw (vs := [.int .i64 ((toS none).f0), .int .u32 ((toS none).f1), .bool ((toS none).f2.f0), .slice A3 ((toS none).f2.f1.length) c3, .int .i64 ((toS none).f3)]) rfl hob (hW.blk 3 rfl) hcell)) S38 ?_
 refine d1 30 134217727 26 rfl (wan rfl rfl rfl rfl) ?_
 refine e_call (args := [.agg #[.int .i64 0, .int .u32 0, .bool false, .slice none 0 0, .int .i64 0], .agg #[.int .i64 ((toS none).f0), .int .u32 ((toS none).f1), .bool ((toS none).f2.f0), .slice A3 ((toS none).f2.f1.length) c3, .int .i64 ((toS none).f3)]]) Try.func18 (by kernel_rfl) rfl rfl ?_
 obtain ⟨ko, hko⟩ := one_same z28 (by exact Nat.zero_le _)
 refine (purlieuref13_One.calls ko z28.f0 z28.f1 z28.f2.f0 none 0 z28.f2.f1 z28.f3 z28.f0 z28.f1 z28.f2.f0 A3 c3 z28.f2.f1 z28.f3 true _ (R_C (Kd.R_nil (Kd.int .i64) 3 w36 0 (fun _ => True))).2 (Nat.le_refl _) (Kd.V_reads' HR.out).2.2 (Kd.V_reads' HR.out).2.1 hko).mono ?_
 rintro e w39 ⟨rfl, hb⟩
 refine ⟨_, rfl, ?_⟩
 have B40 := hb
 have S41 := S38.call B40
 replace HA5 := rb HA5 B40
 replace HA7 := rb HA7 B40
 replace HE5 := rb HE5 B40
 replace HE7 := rb HE7 B40
 replace HT := tb HT B40
 replace HL := vb HL B40
 replace HR := vb HR B40
 replace HL2 := vb HL2 B40
 replace HZ := zb HZ B40
 refine ⟨S41, ?_⟩
 refine dt 30 268435455 (v := .bool true) 27 rfl rfl (wn rfl) (fun W hW => r_pick_t rfl rfl) S41 ?_
 refine dt 30 536870911 (v := .slice (some ad2) ((ls (ss.set fd.toNat (some (⟨s0, s1, ⟨b0, m5⟩, s3⟩ : Slot)))).length) c2) 28 rfl rfl (wn rfl) (fun W hW => r_assign rfl) S41 ?_
 refine dt 30 1073741823 (v := .bool true) 29 rfl rfl (wn rfl) (fun W hW => r_assign rfl) S41 ?_
 refine d_done (by kernel_rfl) ?_
 refine x_seq ?_
 refine s_ret ?_
 refine x_blk_ret ?_
 refine x_seq_ret ?_
 refine t_ret2 (v := .slice (some ad2) ((ls (ss.set fd.toNat (some (⟨s0, s1, ⟨b0, m5⟩, s3⟩ : Slot)))).length) c2) (v' := .bool true) rfl rfl rfl ?_
 exact post_new hI S41.ext HT.out HL2.out (by simp) (hI.G.set _ (fun s_ h_ => by obtain rfl := Option.some.inj h_; exact good_can hcan hs1 hl5)) w18.heap.size w21.heap.size hw1_ hw2_ (fun k_ h_ hl_ => h_.1.elim .inl (fun h2 => .inr ⟨h2, h_.2⟩)) (fun k_ h_ hl_ => by rcases h_ with (h_ | h_) | h_ <;> first | exact .inl h_ | (right; left; omega) | (right; right; omega))
set_option maxHeartbeats 8000000 in
set_option maxRecDepth 100000 in
theorem Does_set_some {w : World} {b g p : Nat} {ok : Nat → Prop} {qs : List (Option Nat)} {ss : List (Option Slot)} {P : Nat → Prop} {ad : Addr} {c : Nat} (hI : DInv w b g p ok qs ss P ad c) (kd fd s0 s1 : Int) (b0 : Bool) (A5 : Option Addr) (c5 : Nat) (l5 : List Int) (s3 : Int) (A7 : Option Addr) (c7 : Nat) (l7 : List Int) (hr5 : Kd.C (Kd.int .i64) w A5 l5.length l5) (hc5 : l5.length ≤ c5) (hr7 : Kd.C (Kd.int .i64) w A7 l7.length l7) (hc7 : l7.length ≤ c7) (hk : kd = 1) (hcan : canS (⟨s0, s1, ⟨b0, cut50 l5⟩, s3⟩ : Slot) = true) (hs1 : 0 ≤ s1) (h0 : 0 ≤ fd) {s : Slot} (hs : ss[fd.toNat]? = some (some s)) {q : Nat} (hq : qs[fd.toNat]? = some (some q)) : Calls Try.prog 19 #[.pointer (some ⟨g, 0, none⟩), .slice (some ad) ((ls ss).length) c, .agg #[.int .i64 kd, .int .i64 fd, .int .i64 s0, .int .u32 s1, .bool b0, .slice A5 l5.length c5, .int .i64 s3, .slice A7 l7.length c7]] w (Post w b g p ok ss.length P) := by
 have HT := Aside0.mk hI.T
 have HL := Aside0.mk hI.L
 have hll := ls_len ss
 have hfew := hI.few
 have hqs := hI.T.len
 obtain ⟨ob, hob⟩ := LV_ob hI.L (by omega)
 obtain ⟨A3, c3, hcell, h3, hF⟩ := LV_at hI.L h0 hs
 have HR := Aside0.mk (show Kd.V (Kd.int .i64) 3 w 0 P (.slice A3 (toS (some s)).f2.f1.length c3) (toS (some s)).f2.f1 from Kd.V_mk h3 hF)
 have S0 := St.add (St.start w ok) hob (fun x hx => by cases hx)
 refine s_enter (n := 233) (L := [(0, .pointer (some ⟨g, 0, none⟩)), (1, .slice (some ad) ((ls ss).length) c), (2, .agg #[.int .i64 kd, .int .i64 fd, .int .i64 s0, .int .u32 s1, .bool b0, .slice A5 l5.length c5, .int .i64 s3, .slice A7 l7.length c7])]) Try.func19 rfl rfl rfl rfl ?_
 refine s_seq ?_
 refine s_region ?_
 refine qo ?_
 refine e_box (cs := [.int .i64 kd, .int .i64 fd, .int .i64 s0, .int .u32 s1, .bool b0, .slice A5 l5.length c5, .int .i64 s3, .slice A7 l7.length c7]) S0 rfl rfl ?_
 intro g1 w2 hg1 S3 B4
 replace HT := tb HT B4
 replace HL := vb HL B4
 replace HR := vb HR B4
 refine qv (v := .slice none 0 0) (r_assign rfl) ?_
 refine qv (v := .bool false) (r_assign rfl) ?_
 refine q_nil ?_
 refine x_seq ?_
 refine s_seq ?_
 refine s_region ?_
 refine qv (v := .agg #[.int .i64 kd, .int .i64 fd, .int .i64 s0, .int .u32 s1, .bool b0, .slice A5 l5.length c5, .int .i64 s3, .slice A7 l7.length c7]) (r_loadN (vs := [.int .i64 kd, .int .i64 fd, .int .i64 s0, .int .u32 s1, .bool b0, .slice A5 l5.length c5, .int .i64 s3, .slice A7 l7.length c7]) sz_30 rfl (S3.blk 0 rfl) rfl rfl) ?_
 refine qo ?_
 refine e_call (args := [.agg #[.int .i64 kd, .int .i64 fd, .int .i64 s0, .int .u32 s1, .bool b0, .slice A5 l5.length c5, .int .i64 s3, .slice A7 l7.length c7]]) Try.func13 (by kernel_rfl) rfl rfl ?_
 refine (own_cut kd fd s0 s1 b0 A5 c5 l5 s3 A7 c7 l7 _ (Kd.C_below hr5 B4) hc5 (Kd.C_below hr7 B4) hc7).mono ?_
 rintro e w5 ⟨m5, m7, Ba5, da5, Ba7, da7, ⟨hm5, hm7⟩, hl5, hl7, rfl, ho5, ho7, hb⟩
 refine ⟨_, rfl, ?_⟩
 have B6 := hb
 have S7 := S3.call B6
 replace HT := tb HT B6
 replace HL := vb HL B6
 replace HR := vb HR B6
 have HA5 := Aside0.mk ho5
 have HA7 := Aside0.mk ho7
 clear ho5 ho7
 have HBa := S3.ext.size
 rw [← hm5] at hcan
 have hlt := get_lt hs
 refine qo ?_
 refine e_store (vs := [.int .i64 kd, .int .i64 fd, .int .i64 s0, .int .u32 s1, .bool b0, .slice Ba5 m5.length da5, .int .i64 s3, .slice Ba7 m7.length da7]) (cs' := [.int .i64 kd, .int .i64 fd, .int .i64 s0, .int .u32 s1, .bool b0, .slice Ba5 m5.length da5, .int .i64 s3, .slice Ba7 m7.length da7]) S7 rfl rfl rfl rfl sz_30 0 rfl (.inl rfl) rfl rfl rfl ?_
 intro w8 S9 E10
 replace HA5 := rx HA5 E10 (S7.blk 0 rfl)
 replace HA7 := rx HA7 E10 (S7.blk 0 rfl)
 replace HT := Aside0.mk (HT.out.move (fun k_ hk_ hl_ => E10.block k_ hl_ (fun e_ => by have o_ := S7.own _ (List.mem_of_getElem? (i := 0) rfl) rfl; try dsimp only at o_ e_; have b_ := hI.okN k_ hk_; omega)))
 replace HL := Aside0.mk (Kd.V_step HL.out (fun k_ hk_ hl_ => E10.block k_ hl_ (fun e_ => by have o_ := S7.own _ (List.mem_of_getElem? (i := 0) rfl) rfl; try dsimp only at o_ e_; have b_ := hI.PN k_ hk_; omega)))
 replace HR := Aside0.mk (Kd.V_step HR.out (fun k_ hk_ hl_ => E10.block k_ hl_ (fun e_ => by have o_ := S7.own _ (List.mem_of_getElem? (i := 0) rfl) rfl; try dsimp only at o_ e_; have b_ := hI.PN k_ hk_; omega)))
 refine q_nil ?_
 refine x_seq ?_
 refine s_seq ?_
 refine s_region ?_
 refine qv (v := .agg #[.int .i64 kd, .int .i64 fd, .int .i64 s0, .int .u32 s1, .bool b0, .slice Ba5 m5.length da5, .int .i64 s3, .slice Ba7 m7.length da7]) (r_loadN (vs := [.int .i64 kd, .int .i64 fd, .int .i64 s0, .int .u32 s1, .bool b0, .slice Ba5 m5.length da5, .int .i64 s3, .slice Ba7 m7.length da7]) sz_30 rfl (S9.blk 0 rfl) rfl rfl) ?_
 refine qo ?_
 refine e_call (args := [.agg #[.int .i64 kd, .int .i64 fd, .int .i64 s0, .int .u32 s1, .bool b0, .slice Ba5 m5.length da5, .int .i64 s3, .slice Ba7 m7.length da7]]) Try.func13 (by kernel_rfl) rfl rfl ?_
 refine (own_same kd fd s0 s1 b0 Ba5 da5 m5 s3 Ba7 da7 m7 _ (R_C HA5.out).2 (R_C HA5.out).1 (R_C HA7.out).2 (R_C HA7.out).1 hl5 hl7).mono ?_
 rintro e w11 ⟨Be5, de5, Be7, de7, rfl, ho5, ho7, hb⟩
 refine ⟨_, rfl, ?_⟩
 have B12 := hb
 have S13 := S9.call B12
 replace HA5 := rb HA5 B12
 replace HA7 := rb HA7 B12
 replace HT := tb HT B12
 replace HL := vb HL B12
 replace HR := vb HR B12
 have HE5 := Aside0.mk ho5
 have HE7 := Aside0.mk ho7
 clear ho5 ho7
 refine qo ?_
 refine e_alloc S13 zro_30 ?_
 intro g14 w15 hg14 S16 B17
 replace HA5 := rb HA5 B17
 replace HA7 := rb HA7 B17
 replace HE5 := rb HE5 B17
 replace HE7 := rb HE7 B17
 replace HT := tb HT B17
 replace HL := vb HL B17
 replace HR := vb HR B17
 refine qo ?_
 refine e_store (vs := [.int .i64 kd, .int .i64 fd, .int .i64 s0, .int .u32 s1, .bool b0, .slice Be5 m5.length de5, .int .i64 s3, .slice Be7 m7.length de7]) (cs' := [.int .i64 kd, .int .i64 fd, .int .i64 s0, .int .u32 s1, .bool b0, .slice Be5 m5.length de5, .int .i64 s3, .slice Be7 m7.length de7]) S16 rfl rfl rfl rfl sz_30 0 rfl (.inl rfl) rfl rfl rfl ?_
 intro w18 S19 E20
 replace HA5 := rx HA5 E20 (S16.blk 0 rfl)
 replace HA7 := rx HA7 E20 (S16.blk 0 rfl)
 replace HE5 := rx HE5 E20 (S16.blk 0 rfl)
 replace HE7 := rx HE7 E20 (S16.blk 0 rfl)
 replace HT := Aside0.mk (HT.out.move (fun k_ hk_ hl_ => E20.block k_ hl_ (fun e_ => by have o_ := S16.own _ (List.mem_of_getElem? (i := 0) rfl) rfl; try dsimp only at o_ e_; have b_ := hI.okN k_ hk_; omega)))
 replace HL := Aside0.mk (Kd.V_step HL.out (fun k_ hk_ hl_ => E20.block k_ hl_ (fun e_ => by have o_ := S16.own _ (List.mem_of_getElem? (i := 0) rfl) rfl; try dsimp only at o_ e_; have b_ := hI.PN k_ hk_; omega)))
 replace HR := Aside0.mk (Kd.V_step HR.out (fun k_ hk_ hl_ => E20.block k_ hl_ (fun e_ => by have o_ := S16.own _ (List.mem_of_getElem? (i := 0) rfl) rfl; try dsimp only at o_ e_; have b_ := hI.PN k_ hk_; omega)))
 refine q_nil ?_
 refine x_seq ?_
 refine s_seq ?_
 refine s_seq ?_
 refine s_region ?_
 refine qv (v := .pointer (some ⟨g1, 0, none⟩)) (r_field fld_30_0 rfl rfl) ?_
 refine qv (v := .int .i64 kd) (r_load1 sz_3 rfl (S19.cell 1 rfl rfl)) ?_
 refine q_nil ?_
 refine x_seq ?_
 refine s_block ?_
 refine s_seq ?_
 refine s_region ?_
 refine qv (v := .bool true) (r_eql rfl rfl (beq_t (by omega))) ?_
 refine qv (v := .bool true) (r_assign rfl) ?_
 refine q_nil ?_
 refine x_seq ?_
 refine s_true rfl ?_
 refine s_seq ?_
 refine s_region ?_
 refine qv (v := .pointer (some ⟨g, 0, none⟩)) (r_move rfl) ?_
 refine qv (v := .pointer (some ⟨g14, 1, none⟩)) (r_field fld_30_1 rfl rfl) ?_
 refine qv (v := .int .i64 fd) (r_load1 sz_3 rfl (S19.cell 0 rfl rfl)) ?_
 refine qv (v := .pointer (some ⟨g14, 2, none⟩)) (r_field fld_30_2 rfl rfl) ?_
 refine qv (v := .agg #[.int .i64 s0, .int .u32 s1, .bool b0, .slice Be5 m5.length de5, .int .i64 s3]) (r_loadN (vs := [.int .i64 s0, .int .u32 s1, .bool b0, .slice Be5 m5.length de5, .int .i64 s3]) sz_28 rfl (S19.blk 0 rfl) rfl rfl) ?_
 refine qo ?_
 refine e_call (args := [.pointer (some ⟨g, 0, none⟩), .int .i64 fd, .agg #[.int .i64 s0, .int .u32 s1, .bool b0, .slice Be5 m5.length de5, .int .i64 s3]]) Try.func29 (by kernel_rfl) rfl rfl ?_
 have zbg14 := heap_lt (S19.blk 0 rfl)
 have zog14 := S19.own _ (List.mem_of_getElem? (i := 0) rfl) rfl
 dsimp only at zbg14 zog14
 have zbg1 := heap_lt (S19.blk 1 rfl)
 have zog1 := S19.own _ (List.mem_of_getElem? (i := 1) rfl) rfl
 dsimp only at zbg1 zog1
 have zx_ := hI.okN _ hI.T.low.2.2.2
 have hw1_ := S19.ext.size
 have hne_ := LV_ne hI.L (by omega) hI.T.row
 replace HA5 := Aside0.mk (show Kd.R (Kd.int .i64) 3 w18 w2.heap.size (fun k_ => w2.heap.size ≤ k_ ∧ k_ < w18.heap.size) _ _ from Kd.R_mono (Kd.R_bound HA5.out) (fun k_ h_ => ⟨h_.2.1, h_.2.2.1⟩))
 obtain ⟨_, hblk_⟩ : ∃ cs_, w18.heap[p]? = some (.cells cs_ 71 (0, 0)) := ⟨_, HT.out.row⟩
 refine (Set_some (TabAt.mono HT.out (ok' := fun k => ok k ∨ w18.heap.size ≤ k) (fun k h => .inl h)) (fun k h => .inr h) fd h0 hq s hs (⟨s0, s1, ⟨b0, m5⟩, s3⟩ : Slot) Be5 de5 (R_C HE5.out).2 (R_C HE5.out).1 200 (by rw [wcanS (⟨s0, s1, ⟨b0, m5⟩, s3⟩ : Slot) hl5, hcan]) (by show m5.length * 8 ≤ _; omega)).mono ?_
 rintro e w21 ⟨v, rfl, ho, ⟨q3, hT3⟩, hE⟩
 obtain ⟨Av, cv, rfl⟩ := Kd.R_slice ho
 refine ⟨_, rfl, ?_⟩
 have Sl_ : St w ok w18 [⟨g14, true, .cells #[.int .i64 kd, .int .i64 fd, .int .i64 s0, .int .u32 s1, .bool b0, .slice Be5 m5.length de5, .int .i64 s3, .slice Be7 m7.length de7] 30 (0, 0)⟩, ⟨g1, true, .cells #[.int .i64 kd, .int .i64 fd, .int .i64 s0, .int .u32 s1, .bool b0, .slice Ba5 m5.length da5, .int .i64 s3, .slice Ba7 m7.length da7] 30 (0, 0)⟩, ⟨ad.block, false, ob⟩] := S19
 have S22 := Sl_.callX hE (fun x_ hx_ e_ => by simp only [List.mem_cons, List.not_mem_nil, or_false] at hx_; rcases hx_ with rfl | rfl | rfl; all_goals ((try dsimp only at e_); omega)) (fun k_ h1_ h2_ => by (try dsimp only at h2_); rw [h2_]; exact hI.T.low.2.2.2)
 replace HA5 := rx HA5 hE hblk_
 replace HA7 := rx HA7 hE hblk_
 replace HE5 := rx HE5 hE hblk_
 replace HE7 := rx HE7 hE hblk_
 replace HL := Aside0.mk (Kd.V_step HL.out (fun k_ hk_ hl_ => hE.block k_ hl_ (fun e_ => by (try dsimp only at e_); rw [e_] at hk_; exact hI.D _ hI.T.low.2.2.2 hk_)))
 replace HR := Aside0.mk (Kd.V_step HR.out (fun k_ hk_ hl_ => hE.block k_ hl_ (fun e_ => by (try dsimp only at e_); rw [e_] at hk_; exact hI.D _ hI.T.low.2.2.2 hk_)))
 have hw2_ := hE.size
 clear HT
 have HT := Aside0.mk hT3.bound
 have HZ := Aside0.mk (Nat.le_refl w21.heap.size)
 have hokb : ∀ k, ((ok k ∨ w18.heap.size ≤ k) ∧ k < w21.heap.size) → k < w.heap.size ∨ (w18.heap.size ≤ k ∧ k < w21.heap.size) := fun k h => h.1.elim (fun h1 => .inl (hI.okN k h1)) (fun h1 => .inr ⟨h1, h.2⟩)
 clear hE hblk_ hT3
 have HW := Aside0.mk ho
 clear ho
 refine qv (v := .tuple #[.agg #[.int .i64 s.f0, .int .u32 s.f1, .bool s.f2.f0, .slice Av s.f2.f1.length cv, .int .i64 s.f3], .bool true, .int .i64 0]) (r_move rfl) ?_
 refine qv (v := .agg #[.int .i64 s.f0, .int .u32 s.f1, .bool s.f2.f0, .slice Av s.f2.f1.length cv, .int .i64 s.f3]) (r_extract rfl rfl) ?_
 refine qv (v := .bool true) (r_extract rfl rfl) ?_
 refine qv (v := .int .i64 0) (r_extract rfl rfl) ?_
 refine qo ?_
 refine e_alloc S22 zro_28 ?_
 intro g23 w24 hg23 S25 B26
 have zag23 : w21.heap.size ≤ g23 := by have h_ := HZ.out; omega
 replace HA5 := rb HA5 B26
 replace HA7 := rb HA7 B26
 replace HE5 := rb HE5 B26
 replace HE7 := rb HE7 B26
 replace HW := rb HW B26
 replace HT := tb HT B26
 replace HL := vb HL B26
 replace HR := vb HR B26
 replace HZ := zb HZ B26
 refine qo ?_
 refine e_store (vs := [.int .i64 s.f0, .int .u32 s.f1, .bool s.f2.f0, .slice Av s.f2.f1.length cv, .int .i64 s.f3]) (cs' := [.int .i64 s.f0, .int .u32 s.f1, .bool s.f2.f0, .slice Av s.f2.f1.length cv, .int .i64 s.f3]) S25 rfl rfl rfl rfl sz_28 0 rfl (.inl rfl) rfl rfl rfl ?_
 intro w27 S28 E29
 replace HA5 := rx HA5 E29 (S25.blk 0 rfl)
 replace HA7 := rx HA7 E29 (S25.blk 0 rfl)
 replace HE5 := rx HE5 E29 (S25.blk 0 rfl)
 replace HE7 := rx HE7 E29 (S25.blk 0 rfl)
 replace HW := rx HW E29 (S25.blk 0 rfl)
 replace HT := Aside0.mk (HT.out.move (fun k_ hk_ hl_ => E29.block k_ hl_ (fun e_ => by have o_ := S25.own _ (List.mem_of_getElem? (i := 0) rfl) rfl; try dsimp only at o_ e_; have b_ := hokb k_ hk_; omega)))
 replace HL := Aside0.mk (Kd.V_step HL.out (fun k_ hk_ hl_ => E29.block k_ hl_ (fun e_ => by have o_ := S25.own _ (List.mem_of_getElem? (i := 0) rfl) rfl; try dsimp only at o_ e_; have b_ := hI.PN k_ hk_; omega)))
 replace HR := Aside0.mk (Kd.V_step HR.out (fun k_ hk_ hl_ => E29.block k_ hl_ (fun e_ => by have o_ := S25.own _ (List.mem_of_getElem? (i := 0) rfl) rfl; try dsimp only at o_ e_; have b_ := hI.PN k_ hk_; omega)))
 replace HZ := Aside0.mk (Nat.le_trans HZ.out E29.size)
 refine qv (v := .bool true) (r_assign rfl) ?_
 refine qv (v := .int .i64 0) (r_assign rfl) ?_
 refine q_nil ?_
 refine x_seq ?_
 refine s_seq ?_
 refine s_seq ?_
 refine s_region ?_
 refine qv (v := .pointer (some ⟨g1, 2, none⟩)) (r_field fld_30_2 rfl rfl) ?_
 refine qv (v := .agg #[.int .i64 s0, .int .u32 s1, .bool b0, .slice Ba5 m5.length da5, .int .i64 s3]) (r_loadN (vs := [.int .i64 s0, .int .u32 s1, .bool b0, .slice Ba5 m5.length da5, .int .i64 s3]) sz_28 rfl (S28.blk 2 rfl) rfl rfl) ?_
 refine qo ?_
 refine e_call (args := [.agg #[.int .i64 s0, .int .u32 s1, .bool b0, .slice Ba5 m5.length da5, .int .i64 s3]]) Try.func9 (by kernel_rfl) rfl rfl ?_
 refine (purlieuref13_Can.calls 200 s0 s1 b0 Ba5 da5 m5 s3 true _ (R_C HA5.out).2 (R_C HA5.out).1 (by rw [rcanS (⟨s0, s1, ⟨b0, m5⟩, s3⟩ : Slot) hl5, hcan])).mono ?_
 rintro e w30 ⟨rfl, hb⟩
 refine ⟨_, rfl, ?_⟩
 have B31 := hb
 have S32 := S28.call B31
 replace HA5 := rb HA5 B31
 replace HA7 := rb HA7 B31
 replace HE5 := rb HE5 B31
 replace HE7 := rb HE7 B31
 replace HW := rb HW B31
 replace HT := tb HT B31
 replace HL := vb HL B31
 replace HR := vb HR B31
 replace HZ := zb HZ B31
 refine qv (v := .bool false) (r_not rfl rfl) ?_
 refine q_nil ?_
 refine x_seq ?_
 refine s_false rfl ?_
 refine s_skip ?_
 refine x_seq ?_
 refine s_seq ?_
 refine s_seq ?_
 refine s_region ?_
 refine qv (v := .pointer (some ⟨g1, 1, none⟩)) (r_field fld_30_1 rfl rfl) ?_
 refine qv (v := .int .i64 fd) (r_load1 sz_3 rfl (S32.cell 2 rfl rfl)) ?_
 refine qv (v := .bool false) (r_lss rfl rfl (decide_eq_false (by omega))) ?_
 refine qv (v := .bool false) (r_move rfl) ?_
 refine q_val (v := .pointer (some ⟨g1, 1, none⟩)) (wan rfl rfl rfl rfl) rfl (r_field fld_30_1 rfl rfl) ?_
 refine q_val (v := .int .i64 fd) (wan rfl rfl rfl rfl) rfl (r_load1 sz_3 rfl (S32.cell 2 rfl rfl)) ?_
 refine q_val (v := .slice (some ad) ((ls ss).length) c) (wan rfl rfl rfl rfl) rfl (r_move rfl) ?_
 refine q_val (v := .int .i64 (((ls ss).length : Nat) : Int)) (wan rfl rfl rfl rfl) rfl (r_len_slice elm_47 rfl) ?_
 refine q_val (v := .bool false) (wan rfl rfl rfl rfl) rfl (r_geq rfl rfl (decide_eq_false (by omega))) ?_
 refine qv (v := .bool false) (r_pick_f rfl rfl) ?_
 refine q_nil ?_
 refine x_seq ?_
 refine s_false rfl ?_
 refine s_skip ?_
 refine x_seq ?_
 refine s_seq ?_
 refine d_start mix (fun W => St w (ok) W [⟨g23, true, .cells #[.int .i64 s.f0, .int .u32 s.f1, .bool s.f2.f0, .slice Av s.f2.f1.length cv, .int .i64 s.f3] 28 (0, 0)⟩, ⟨g14, true, .cells #[.int .i64 kd, .int .i64 fd, .int .i64 s0, .int .u32 s1, .bool b0, .slice Be5 m5.length de5, .int .i64 s3, .slice Be7 m7.length de7] 30 (0, 0)⟩, ⟨g1, true, .cells #[.int .i64 kd, .int .i64 fd, .int .i64 s0, .int .u32 s1, .bool b0, .slice Ba5 m5.length da5, .int .i64 s3, .slice Ba7 m7.length da7] 30 (0, 0)⟩, ⟨ad.block, false, ob⟩]) ?_
 have S33 := S32.draw
 have B35 := Below_drew w30
 generalize w30.drew = w34 at S33 B35 ⊢
 replace HA5 := rb HA5 B35
 replace HA7 := rb HA7 B35
 replace HE5 := rb HE5 B35
 replace HE7 := rb HE7 B35
 replace HW := rb HW B35
 replace HT := tb HT B35
 replace HL := vb HL B35
 replace HR := vb HR B35
 replace HZ := zb HZ B35
 refine dt 30 1 (v := .slice (some ad) ((ls ss).length) c) 0 rfl rfl (wn rfl) (fun W hW => r_move rfl) S33 ?_
 refine dt 30 3 (v := .pointer (some ⟨g1, 1, none⟩)) 1 rfl rfl (wn rfl) (fun W hW => r_field fld_30_1 rfl rfl) S33 ?_
 refine dt 30 7 (v := .int .i64 fd) 2 rfl rfl (wn rfl) (fun W hW => r_load1 sz_3 rfl (hW.cell 2 rfl rfl)) S33 ?_
 refine dt 30 15 (v := .pointer (some ⟨g1, 2, none⟩)) 3 rfl rfl (wn rfl) (fun W hW => r_field fld_30_2 rfl rfl) S33 ?_
 refine dt 30 31 (v := .agg #[.int .i64 s0, .int .u32 s1, .bool b0, .slice Ba5 m5.length da5, .int .i64 s3]) 4 rfl rfl (wn rfl) (fun W hW => r_loadN (vs := [.int .i64 s0, .int .u32 s1, .bool b0, .slice Ba5 m5.length da5, .int .i64 s3]) sz_28 rfl (hW.blk 2 rfl) rfl rfl) S33 ?_
 refine dt 30 95 (v := .int .i64 0) 6 rfl rfl (wn rfl) (fun W hW => r_move rfl) S33 ?_
 refine dt 30 223 (v := .bool true) 7 rfl rfl (wn rfl) (fun W hW => r_eql rfl rfl (beq_t (by omega))) S33 ?_
 refine d1 30 255 5 rfl (wn rfl) ?_
 refine e_call (args := [.slice (some ad) ((ls ss).length) c, .int .i64 fd, .agg #[.int .i64 s0, .int .u32 s1, .bool b0, .slice Ba5 m5.length da5, .int .i64 s3]]) Try.func44 (by kernel_rfl) rfl rfl ?_
 have hV_ := (Kd.R_V (base' := 0) HA5.out)
 have hz3_ := HZ.out
 refine (With_ls HL.out (by omega) fd h0 (by omega) (some (⟨s0, s1, ⟨b0, m5⟩, s3⟩ : Slot)) hV_).mono ?_
 rintro e w36 ⟨ad2, c2, rfl, hL2, hb⟩
 refine ⟨_, rfl, ?_⟩
 have B37 := hb
 have S38 := S33.call B37
 replace HA5 := rb HA5 B37
 replace HA7 := rb HA7 B37
 replace HE5 := rb HE5 B37
 replace HE7 := rb HE7 B37
 replace HW := rb HW B37
 replace HT := tb HT B37
 replace HL := vb HL B37
 replace HR := vb HR B37
 replace HZ := zb HZ B37
 have HL2 := Aside0.mk hL2
 refine ⟨S38, ?_⟩
 refine dt 30 511 (v := .bool true) 8 rfl rfl (wn rfl) (fun W hW => r_move rfl) S38 ?_
 refine dt 30 1023 (v := .bool true) 9 rfl rfl (wan rfl rfl rfl rfl) (fun W hW => r_move rfl) S38 ?_
 refine dt 30 2047 (v := .slice (some ad) ((ls ss).length) c) 10 rfl rfl (wan rfl rfl rfl rfl) (fun W hW => r_move rfl) S38 ?_
 refine dt 30 4095 (v := .pointer (some ⟨g1, 1, none⟩)) 11 rfl rfl (wan rfl rfl rfl rfl) (fun W hW => r_field fld_30_1 rfl rfl) S38 ?_
 refine dt 30 8191 (v := .int .i64 fd) 12 rfl rfl (wan rfl rfl rfl rfl) (fun W hW => r_load1 sz_3 rfl (hW.cell 2 rfl rfl)) S38 ?_
 refine dt 30 16383 (v := .pointer (some (ad.add (fd.toNat * 5)))) 13 rfl rfl (wan rfl rfl rfl rfl) (fun W hW => r_indexA elm_47 rfl rfl (by omega) (by omega) rfl) S38 ?_
 refine dt 30 32767 (v := .pointer (some (ad.add (fd.toNat * 5)))) 14 rfl rfl (wan rfl rfl rfl rfl) (fun W hW => r_fieldA fld_28_0 rfl rfl) S38 ?_
 refine dt 30 65535 (v := .int .i64 ((toS (some s)).f0)) 15 rfl rfl (wan rfl rfl rfl rfl) (fun W hW => r_load1A sz_3 rfl (cells_raw (vs := [.int .i64 ((toS (some s)).f0), .int .u32 ((toS (some s)).f1), .bool ((toS (some s)).f2.f0), .slice A3 ((toS (some s)).f2.f1.length) c3, .int .i64 ((toS (some s)).f3)]) rfl hob (hW.blk 3 rfl) hcell) rfl) S38 ?_
 refine dt 30 131071 (v := .bool true) 16 rfl rfl (wan rfl rfl rfl rfl) (fun W hW => r_gtr rfl rfl (decide_eq_true ((hI.G _ _ hs).pos))) S38 ?_
 refine dt 30 262143 (v := .bool true) 17 rfl rfl (wan rfl rfl rfl rfl) (fun W hW => r_beql bol_4 rfl rfl rfl) S38 ?_
 refine dt 30 524287 (v := .bool true) 18 rfl rfl (wn rfl) (fun W hW => r_pick_t rfl rfl) S38 ?_
 refine dt 30 1048575 (v := .bool true) 19 rfl rfl (wn rfl) (fun W hW => r_move rfl) S38 ?_
 refine dt 30 2097151 (v := .agg #[.int .i64 s.f0, .int .u32 s.f1, .bool s.f2.f0, .slice Av s.f2.f1.length cv, .int .i64 s.f3]) 20 rfl rfl (wan rfl rfl rfl rfl) (fun W hW => r_loadN (vs := [.int .i64 s.f0, .int .u32 s.f1, .bool s.f2.f0, .slice Av s.f2.f1.length cv, .int .i64 s.f3]) sz_28 rfl (hW.blk 0 rfl) rfl rfl) S38 ?_
 refine dt 30 4194303 (v := .slice (some ad) ((ls ss).length) c) 21 rfl rfl (wan rfl rfl rfl rfl) (fun W hW => r_move rfl) S38 ?_
 refine dt 30 8388607 (v := .pointer (some ⟨g1, 1, none⟩)) 22 rfl rfl (wan rfl rfl rfl rfl) (fun W hW => r_field fld_30_1 rfl rfl) S38 ?_
 refine dt 30 16777215 (v := .int .i64 fd) 23 rfl rfl (wan rfl rfl rfl rfl) (fun W hW => r_load1 sz_3 rfl (hW.cell 2 rfl rfl)) S38 ?_
 refine dt 30 33554431 (v := .pointer (some (ad.add (fd.toNat * 5)))) 24 rfl rfl (wan rfl rfl rfl rfl) (fun W hW => r_indexA elm_47 rfl rfl (by omega) (by omega) rfl) S38 ?_
 refine dt 30 67108863 (v := .agg #[.int .i64 ((toS (some s)).f0), .int .u32 ((toS (some s)).f1), .bool ((toS (some s)).f2.f0), .slice A3 ((toS (some s)).f2.f1.length) c3, .int .i64 ((toS (some s)).f3)]) 25 rfl rfl (wan rfl rfl rfl rfl) (fun W hW => r_loadNA sz_28 rfl rfl (cells_raw (vs := [.int .i64 ((toS (some s)).f0), .int .u32 ((toS (some s)).f1), .bool ((toS (some s)).f2.f0), .slice A3 ((toS (some s)).f2.f1.length) c3, .int .i64 ((toS (some s)).f3)]) rfl hob (hW.blk 3 rfl) hcell)) S38 ?_
 refine d1 30 134217727 26 rfl (wan rfl rfl rfl rfl) ?_
 refine e_call (args := [.agg #[.int .i64 s.f0, .int .u32 s.f1, .bool s.f2.f0, .slice Av s.f2.f1.length cv, .int .i64 s.f3], .agg #[.int .i64 ((toS (some s)).f0), .int .u32 ((toS (some s)).f1), .bool ((toS (some s)).f2.f0), .slice A3 ((toS (some s)).f2.f1.length) c3, .int .i64 ((toS (some s)).f3)]]) Try.func18 (by kernel_rfl) rfl rfl ?_
 obtain ⟨ko, hko⟩ := one_same s (by have hgl_ := (hI.G _ _ hs).len; show s.f2.f1.length ≤ _; omega)
 refine (purlieuref13_One.calls ko s.f0 s.f1 s.f2.f0 Av cv s.f2.f1 s.f3 s.f0 s.f1 s.f2.f0 A3 c3 s.f2.f1 s.f3 true _ (R_C HW.out).2 (R_C HW.out).1 (Kd.V_reads' HR.out).2.2 (Kd.V_reads' HR.out).2.1 hko).mono ?_
 rintro e w39 ⟨rfl, hb⟩
 refine ⟨_, rfl, ?_⟩
 have B40 := hb
 have S41 := S38.call B40
 replace HA5 := rb HA5 B40
 replace HA7 := rb HA7 B40
 replace HE5 := rb HE5 B40
 replace HE7 := rb HE7 B40
 replace HW := rb HW B40
 replace HT := tb HT B40
 replace HL := vb HL B40
 replace HR := vb HR B40
 replace HL2 := vb HL2 B40
 replace HZ := zb HZ B40
 refine ⟨S41, ?_⟩
 refine dt 30 268435455 (v := .bool true) 27 rfl rfl (wn rfl) (fun W hW => r_pick_t rfl rfl) S41 ?_
 refine dt 30 536870911 (v := .slice (some ad2) ((ls (ss.set fd.toNat (some (⟨s0, s1, ⟨b0, m5⟩, s3⟩ : Slot)))).length) c2) 28 rfl rfl (wn rfl) (fun W hW => r_assign rfl) S41 ?_
 refine dt 30 1073741823 (v := .bool true) 29 rfl rfl (wn rfl) (fun W hW => r_assign rfl) S41 ?_
 refine d_done (by kernel_rfl) ?_
 refine x_seq ?_
 refine s_ret ?_
 refine x_blk_ret ?_
 refine x_seq_ret ?_
 refine t_ret2 (v := .slice (some ad2) ((ls (ss.set fd.toNat (some (⟨s0, s1, ⟨b0, m5⟩, s3⟩ : Slot)))).length) c2) (v' := .bool true) rfl rfl rfl ?_
 exact post_new hI S41.ext HT.out HL2.out (by simp) (hI.G.set _ (fun s_ h_ => by obtain rfl := Option.some.inj h_; exact good_can hcan hs1 hl5)) w18.heap.size w21.heap.size hw1_ hw2_ (fun k_ h_ hl_ => h_.1.elim .inl (fun h2 => .inr ⟨h2, h_.2⟩)) (fun k_ h_ hl_ => by rcases h_ with (h_ | h_) | h_ <;> first | exact .inl h_ | (right; left; omega) | (right; right; omega))
end Go.Proofs.Ytilfalpfanaanaa.PA
