/- white.subset: one whitelist is within another one; its closure, slices.IndexFunc and slices.ContainsFunc at it. -/
import Derived.Test.YtphblnibjiohjaaDoorW1
import Derived.Test.YtphblnibjiohjaaDoorMade
namespace Go.Proofs.YtphblnibjiohjaaDoor.PA
open Go.RowKit Go.Proofs.YtphblnibjiohjaaDoorW.PrintWords Go.Proofs.YtphblnibjiohjaaDoorW.PrintLast Go.Proofs.YtphblnibjiohjaaDoorW.PrintMore
set_option linter.unusedVariables false
set_option linter.unusedSimpArgs false

theorem sub1_calls (c : Int) (g : Nat) (b0 : Bool) (B : Option Addr) (cB : Nat) (m : List Int) (w : World) (hg : w.heap[g]? = some (.cells #[.bool b0, .slice B m.length cB] 24 (0, 0)))
    (hr : Kd.C (Kd.int .i64) w B m.length m) (hc : m.length ≤ cB) (hm : m.length < 70368744177664) :
    Calls Tryd.prog 50 #[.int .i64 c, .pointer (some ⟨g, 0, none⟩)] w fun e w' => e = .returned (.bool (!hasB b0 m c)) ∧ Below w.heap.size w w' := by
  have hu := Tryd.underlying24
  have HR := Aside0.mk hr
  have HH := Aside0.mk (has_eq b0 m c hm (m.length + 1) (by omega))
  have HC := Aside0.mk hc
  clear hr hc hm
  obtain ⟨r, hr⟩ : ∃ r, r = hasB b0 m c := ⟨_, rfl⟩
  rw [← hr] at HH ⊢
  clear hr
  have hcz0 := (blk_cell hg 0).trans rfl
  have hcz1 := (blk_cell hg 1).trans rfl
  clear hg
  go_enter Tryd.func50, Tryd.ntmps50
  go_wp2_with (first
    | ((with_reducible refine gate_callee (f := 30) rfl ?_); refine goesL_ (some 6) rfl rfl Tryd.func30 (by kernel_rfl) rfl #[.agg #[.bool b0, .slice B m.length cB], .int .i64 c] rfl (by (try simp only [List.map_toArray, List.map_cons, List.map_nil]); first | done | rfl) ?_; refine (white_has.calls (m.length + 1) b0 B cB m c r _ ?s1 ?s2 HH.out).mono ?_; (case s1 => exact HR.out); (case s2 => exact HC.out); rintro e w2 ⟨rfl, hb⟩; refine ⟨_, rfl, ?_⟩; have HB := Aside0.mk hb; clear hb))
  go_ret
  exact ⟨rfl, HB.out⟩

def IdxPost (l : List Int) (p : Int → Bool) (w : World) (e : Ending) (w' : World) : Prop := ∃ i : Int, e = .returned (.int .i64 i) ∧ decide (0 ≤ i) = l.any p ∧ Below w.heap.size w w'

theorem idx_calls (A : Option Addr) (cA : Nat) (l : List Int) (g : Nat) (b0 : Bool) (B : Option Addr) (cB : Nat) (m : List Int) (w : World) (hg : w.heap[g]? = some (.cells #[.bool b0, .slice B m.length cB] 24 (0, 0)))
    (hl : Kd.C (Kd.int .i64) w A l.length l) (hlc : l.length ≤ cA) (hln : l.length ≤ 140737488355328)
    (hr : Kd.C (Kd.int .i64) w B m.length m) (hc : m.length ≤ cB) (hm : m.length < 70368744177664) :
    Calls Tryd.prog 58 #[.slice A l.length cA, .func (.func 50) #[] #[.pointer (some ⟨g, 0, none⟩)]] w (IdxPost l (fun c => !hasB b0 m c) w) := by
  have HG := Aside0.mk hg
  have HL := Aside0.mk hl
  have HR := Aside0.mk hr
  have HC := Aside0.mk hc
  have HM := Aside0.mk hm
  clear hg hl hr hc hm
  go_enter Tryd.func58, Tryd.ntmps58
  go_wp2_with fail
  go_loopg [8] l.length (fun kq v8 wr => ∃ x : Int, v8 = .int .i64 x ∧ Aside0 (0 ≤ x ∧ x + kq = l.length) ∧ Aside0 (∀ y ∈ l.take x.toNat, hasB b0 m y = true) ∧ Aside0 (Below w.heap.size w wr))
  case atStart => exact ⟨0, rfl, ⟨by omega⟩, ⟨by simp⟩, ⟨Below.refl _ _⟩⟩
  case round =>
    obtain ⟨x, rfl, HK, HA, HB⟩ := hrel
    by_cases hlt : x < (l.length : Int)
    · have c0 : decide (x < (l.length : Int)) = true := decide_eq_true hlt
      obtain ⟨h0, h1⟩ := HK.out
      obtain ⟨ad, ead, hx⟩ := Kd.at_int HL.out x h0 hlt
      cases ead
      replace hx := (HB.out.cell (World.block_lt_of_cell? w _ hx)).trans hx
      have HT := Aside0.mk (show l.take (x + 1).toNat = l.take x.toNat ++ [rd l x] by
        rw [show (x + 1).toNat = x.toNat + 1 by omega, List.take_succ_eq_append_getElem (by omega)]
        show _ = l.take x.toNat ++ [l.getD x.toNat 0]
        rw [gd (by omega)])
      have HMem := Aside0.mk (show rd l x ∈ l from getD_mem (by omega))
      have p0 := eq_true h0
      have q0 := eq_true hlt
      have HX := Aside0.mk (And.intro h0 (And.intro h1 hlt))
      have hx7 : x < 9223372036854775807 := by omega
      have hx0 := h0
      clear h0 h1 hlt p0
      by_cases hh : hasB b0 m (rd l x) = true
      · have HH := Aside0.mk hh
        clear hh
        go_wp2_with (go_at_call 50; refine (sub1_calls (rd l x) g b0 B cB m _ ?s1 ?s2 HC.out HM.out).mono ?_; (case s1 => exact blk_below HG.out HB.out); (case s2 => exact Kd.C_below HR.out HB.out); rw [HH.out]; rintro e w2 ⟨rfl, hb⟩; have HB2 := Aside0.mk (below_step HB.out hb); clear hb)
        go_roundg (gk - 1)
        case measure => have := HX.out; omega
        case rel => exact ⟨x + 1, by go_num, ⟨by have := HX.out; omega⟩, ⟨by
          rw [HT.out]
          intro y hy
          rcases List.mem_append.1 hy with h | h
          · exact HA.out y h
          · rw [List.mem_singleton.1 h]; exact HH.out⟩, HB2⟩
      · have HH := Aside0.mk (Bool.eq_false_iff.2 hh)
        clear hh
        go_wp2_with (go_at_call 50; refine (sub1_calls (rd l x) g b0 B cB m _ ?s1 ?s2 HC.out HM.out).mono ?_; (case s1 => exact blk_below HG.out HB.out); (case s2 => exact Kd.C_below HR.out HB.out); rw [HH.out]; rintro e w2 ⟨rfl, hb⟩; have HB2 := Aside0.mk (below_step HB.out hb); clear hb)
        go_ret
        refine ⟨x, rfl, ?_, HB2.out⟩
        rw [decide_eq_true HX.out.1]
        exact (List.any_eq_true.2 ⟨_, HMem.out, by rw [HH.out]; rfl⟩).symm
    · have c0 : decide (x < (l.length : Int)) = false := decide_eq_false hlt
      have HX := Aside0.mk (show l.take x.toNat = l from List.take_of_length_le (by have := HK.out; omega))
      clear hlt
      go_wp2_with fail
      go_ret
      refine ⟨-1, rfl, ?_, HB.out⟩
      rw [HX.out] at HA
      rw [decide_eq_false (by omega), eq_comm, List.any_eq_false]
      intro y hy
      rw [HA.out y hy]
      simp

set_option maxHeartbeats 2000000 in
theorem cont_calls (A : Option Addr) (cA : Nat) (l : List Int) (g : Nat) (b0 : Bool) (B : Option Addr) (cB : Nat) (m : List Int) (w : World) (hg : w.heap[g]? = some (.cells #[.bool b0, .slice B m.length cB] 24 (0, 0)))
    (hl : Kd.C (Kd.int .i64) w A l.length l) (hlc : l.length ≤ cA) (hln : l.length ≤ 140737488355328)
    (hr : Kd.C (Kd.int .i64) w B m.length m) (hc : m.length ≤ cB) (hm : m.length < 70368744177664) :
    Calls Tryd.prog 49 #[.slice A l.length cA, .func (.func 50) #[] #[.pointer (some ⟨g, 0, none⟩)]] w fun e w' => e = .returned (.bool (l.any fun c => !hasB b0 m c)) ∧ Below w.heap.size w w' := by
  have H := Aside0.mk (idx_calls A cA l g b0 B cB m w hg hl hlc hln hr hc hm)
  clear hg hl hlc hln hr hc hm
  obtain ⟨r, hr⟩ : ∃ r, r = l.any fun c => !hasB b0 m c := ⟨_, rfl⟩
  rw [← hr]
  have HR := Aside0.mk hr
  clear hr
  go_enter Tryd.func49, Tryd.ntmps49
  go_wp2_with (go_at_call 58; refine H.out.mono ?_; rintro e w2 ⟨i, rfl, hi, hb⟩; rw [← HR.out] at hi; have HB := Aside0.mk hb; have HI := Aside0.mk hi; clear hi hb)
  go_ret
  exact ⟨by rw [← HI.out]; rfl, HB.out⟩

def subB (a : Bool) (l : List Int) (b : Bool) (m : List Int) : Bool := canB a l && canB b m && (if a || b then b else l.all fun c => hasB b m c)
def white_subset.f (a0_0 : Bool) (l0_1 : List Int) (a1_0 : Bool) (l1_1 : List Int) : Option Bool := if l0_1.length < 70368744177664 ∧ l1_1.length < 70368744177664 then some (subB a0_0 l0_1 a1_0 l1_1) else none

set_option maxHeartbeats 4000000 in
set_option maxRecDepth 100000 in
theorem white_subset.calls (a0_0 : Bool) (A0 : Option Addr) (c0 : Nat) (l0_1 : List Int) (a1_0 : Bool) (A1 : Option Addr) (c1 : Nat) (l1_1 : List Int) (r : Bool) (w : World) (hr0 : Kd.C (Kd.int .i64) w A0 l0_1.length l0_1) (hc0 : l0_1.length ≤ c0) (hr1 : Kd.C (Kd.int .i64) w A1 l1_1.length l1_1) (hc1 : l1_1.length ≤ c1) (h : white_subset.f a0_0 l0_1 a1_0 l1_1 = some r) :
    Calls Tryd.prog 40 #[.agg #[.bool a0_0, .slice A0 l0_1.length c0], .agg #[.bool a1_0, .slice A1 l1_1.length c1]] w fun e w' => e = .returned (.bool r) ∧ Below w.heap.size w w' := by
  have hu := Tryd.underlying24
  unfold white_subset.f at h
  by_cases hn : l0_1.length < 70368744177664 ∧ l1_1.length < 70368744177664
  case neg => rw [if_neg hn] at h; cases h
  rw [if_pos hn] at h
  obtain rfl := Option.some.inj h
  clear h
  have HR0 := Aside0.mk hr0
  have HR1 := Aside0.mk hr1
  have HC0 := Aside0.mk hc0
  have HC1 := Aside0.mk hc1
  have HN0 := Aside0.mk hn.1
  have HN1 := Aside0.mk hn.2
  have HCa := Aside0.mk (can_all a0_0 l0_1 (by omega) (l0_1.length + 1) (by omega))
  have HCb := Aside0.mk (can_all a1_0 l1_1 (by omega) (l1_1.length + 1) (by omega))
  obtain ⟨r, hr⟩ : ∃ r, r = subB a0_0 l0_1 a1_0 l1_1 := ⟨_, rfl⟩
  rw [← hr]
  unfold subB at hr
  clear hr0 hc0 hr1 hc1 hn
  by_cases ha : canB a0_0 l0_1 = true
  case neg =>
    rw [Bool.eq_false_iff.2 ha] at HCa hr
    obtain rfl : r = false := by simpa using hr
    clear ha hr
    go_enter Tryd.func40, Tryd.ntmps40
    go_wp2_with (first | ((with_reducible refine gate_dst (N := 2) rfl ?_); refine box_event ?hg (N := 2) ?hd (cs := #[.bool a0_0, .slice A0 l0_1.length c0]) (t := 24) ?hr ?_; (case hd => rfl); (case hg => rfl); (case hr => first | (go_simp; done) | (go_simp; rfl)); intro g2 hg w1 BK hb; have BK2 := Aside0.mk BK; have HB1 := Aside0.mk hb; clear BK hb hg) | ((with_reducible refine gate_dst (N := 3) rfl ?_); refine box_event ?hg (N := 3) ?hd (cs := #[.bool a1_0, .slice A1 l1_1.length c1]) (t := 24) ?hr ?_; (case hd => rfl); (case hg => rfl); (case hr => first | (go_simp; done) | (go_simp; rfl)); intro g3 hg w2 BK hb; have BK3 := Aside0.mk BK; have HB2 := Aside0.mk (below_step HB1.out hb); have BK2b := Aside0.mk (blk_below BK2.out hb); have hnb := Nat.ne_of_lt (blk_lt BK2.out); rw [← hg] at hnb; clear BK hb hg; have hcz0 := (blk_cell BK2b.out 0).trans rfl; have hcz1 := (blk_cell BK2b.out 1).trans rfl; have hdz0 := (blk_cell BK3.out 0).trans rfl; have hdz1 := (blk_cell BK3.out 1).trans rfl) | ((with_reducible refine gate_callee (f := 34) rfl ?_); refine goesL_ (some 7) rfl rfl Tryd.func34 (by kernel_rfl) rfl #[.agg #[.bool a0_0, .slice A0 l0_1.length c0]] rfl (by (try simp only [List.map_toArray, List.map_cons, List.map_nil]); first | done | rfl) ?_; refine (white_can.calls (l0_1.length + 1) a0_0 A0 c0 l0_1 false _ ?s1 ?s2 HCa.out).mono ?_; (case s1 => exact Kd.C_below HR0.out HB2.out); (case s2 => exact HC0.out); rintro e w3 ⟨rfl, hb⟩; refine ⟨_, rfl, ?_⟩; have HB3 := Aside0.mk (below_step HB2.out hb); have BK2c := Aside0.mk (blk_below BK2b.out hb); have BK3c := Aside0.mk (blk_below BK3.out hb); clear hb hcz0 hcz1 hdz0 hdz1; have hcz0 := (blk_cell BK2c.out 0).trans rfl; have hcz1 := (blk_cell BK2c.out 1).trans rfl; have hdz0 := (blk_cell BK3c.out 0).trans rfl; have hdz1 := (blk_cell BK3c.out 1).trans rfl))
    go_ret
    exact ⟨rfl, HB3.out⟩
  rw [ha] at HCa hr
  clear ha
  by_cases hb : canB a1_0 l1_1 = true
  case neg =>
    rw [Bool.eq_false_iff.2 hb] at HCb hr
    obtain rfl : r = false := by simpa using hr
    clear hb hr
    go_enter Tryd.func40, Tryd.ntmps40
    go_wp2_with (first | ((with_reducible refine gate_dst (N := 2) rfl ?_); refine box_event ?hg (N := 2) ?hd (cs := #[.bool a0_0, .slice A0 l0_1.length c0]) (t := 24) ?hr ?_; (case hd => rfl); (case hg => rfl); (case hr => first | (go_simp; done) | (go_simp; rfl)); intro g2 hg w1 BK hb; have BK2 := Aside0.mk BK; have HB1 := Aside0.mk hb; clear BK hb hg) | ((with_reducible refine gate_dst (N := 3) rfl ?_); refine box_event ?hg (N := 3) ?hd (cs := #[.bool a1_0, .slice A1 l1_1.length c1]) (t := 24) ?hr ?_; (case hd => rfl); (case hg => rfl); (case hr => first | (go_simp; done) | (go_simp; rfl)); intro g3 hg w2 BK hb; have BK3 := Aside0.mk BK; have HB2 := Aside0.mk (below_step HB1.out hb); have BK2b := Aside0.mk (blk_below BK2.out hb); have hnb := Nat.ne_of_lt (blk_lt BK2.out); rw [← hg] at hnb; clear BK hb hg; have hcz0 := (blk_cell BK2b.out 0).trans rfl; have hcz1 := (blk_cell BK2b.out 1).trans rfl; have hdz0 := (blk_cell BK3.out 0).trans rfl; have hdz1 := (blk_cell BK3.out 1).trans rfl) | ((with_reducible refine gate_callee (f := 34) rfl ?_); refine goesL_ (some 7) rfl rfl Tryd.func34 (by kernel_rfl) rfl #[.agg #[.bool a0_0, .slice A0 l0_1.length c0]] rfl (by (try simp only [List.map_toArray, List.map_cons, List.map_nil]); first | done | rfl) ?_; refine (white_can.calls (l0_1.length + 1) a0_0 A0 c0 l0_1 true _ ?s1 ?s2 HCa.out).mono ?_; (case s1 => exact Kd.C_below HR0.out HB2.out); (case s2 => exact HC0.out); rintro e w3 ⟨rfl, hb⟩; refine ⟨_, rfl, ?_⟩; have HB3 := Aside0.mk (below_step HB2.out hb); have BK2c := Aside0.mk (blk_below BK2b.out hb); have BK3c := Aside0.mk (blk_below BK3.out hb); clear hb hcz0 hcz1 hdz0 hdz1; have hcz0 := (blk_cell BK2c.out 0).trans rfl; have hcz1 := (blk_cell BK2c.out 1).trans rfl; have hdz0 := (blk_cell BK3c.out 0).trans rfl; have hdz1 := (blk_cell BK3c.out 1).trans rfl) | ((with_reducible refine gate_callee (f := 34) rfl ?_); refine goesL_ (some 10) rfl rfl Tryd.func34 (by kernel_rfl) rfl #[.agg #[.bool a1_0, .slice A1 l1_1.length c1]] rfl (by (try simp only [List.map_toArray, List.map_cons, List.map_nil]); first | done | rfl) ?_; refine (white_can.calls (l1_1.length + 1) a1_0 A1 c1 l1_1 false _ ?s1 ?s2 HCb.out).mono ?_; (case s1 => exact Kd.C_below HR1.out HB3.out); (case s2 => exact HC1.out); rintro e w4 ⟨rfl, hb⟩; refine ⟨_, rfl, ?_⟩; have HB4 := Aside0.mk (below_step HB3.out hb); have BK2d := Aside0.mk (blk_below BK2c.out hb); have BK3d := Aside0.mk (blk_below BK3c.out hb); clear hb hcz0 hcz1 hdz0 hdz1; have hcz0 := (blk_cell BK2d.out 0).trans rfl; have hcz1 := (blk_cell BK2d.out 1).trans rfl; have hdz0 := (blk_cell BK3d.out 0).trans rfl; have hdz1 := (blk_cell BK3d.out 1).trans rfl))
    go_ret
    exact ⟨rfl, HB4.out⟩
  rw [hb] at HCb hr
  clear hb
  cases a0_0 with
  | true =>
    cases a1_0 with
    | true =>
      obtain rfl : r = true := by simpa using hr
      clear hr
      go_enter Tryd.func40, Tryd.ntmps40
      go_wp2_with (first | ((with_reducible refine gate_dst (N := 2) rfl ?_); refine box_event ?hg (N := 2) ?hd (cs := #[.bool true, .slice A0 l0_1.length c0]) (t := 24) ?hr ?_; (case hd => rfl); (case hg => rfl); (case hr => first | (go_simp; done) | (go_simp; rfl)); intro g2 hg w1 BK hb; have BK2 := Aside0.mk BK; have HB1 := Aside0.mk hb; clear BK hb hg) | ((with_reducible refine gate_dst (N := 3) rfl ?_); refine box_event ?hg (N := 3) ?hd (cs := #[.bool true, .slice A1 l1_1.length c1]) (t := 24) ?hr ?_; (case hd => rfl); (case hg => rfl); (case hr => first | (go_simp; done) | (go_simp; rfl)); intro g3 hg w2 BK hb; have BK3 := Aside0.mk BK; have HB2 := Aside0.mk (below_step HB1.out hb); have BK2b := Aside0.mk (blk_below BK2.out hb); have hnb := Nat.ne_of_lt (blk_lt BK2.out); rw [← hg] at hnb; clear BK hb hg; have hcz0 := (blk_cell BK2b.out 0).trans rfl; have hcz1 := (blk_cell BK2b.out 1).trans rfl; have hdz0 := (blk_cell BK3.out 0).trans rfl; have hdz1 := (blk_cell BK3.out 1).trans rfl) | ((with_reducible refine gate_callee (f := 34) rfl ?_); refine goesL_ (some 7) rfl rfl Tryd.func34 (by kernel_rfl) rfl #[.agg #[.bool true, .slice A0 l0_1.length c0]] rfl (by (try simp only [List.map_toArray, List.map_cons, List.map_nil]); first | done | rfl) ?_; refine (white_can.calls (l0_1.length + 1) true A0 c0 l0_1 true _ ?s1 ?s2 HCa.out).mono ?_; (case s1 => exact Kd.C_below HR0.out HB2.out); (case s2 => exact HC0.out); rintro e w3 ⟨rfl, hb⟩; refine ⟨_, rfl, ?_⟩; have HB3 := Aside0.mk (below_step HB2.out hb); have BK2c := Aside0.mk (blk_below BK2b.out hb); have BK3c := Aside0.mk (blk_below BK3.out hb); clear hb hcz0 hcz1 hdz0 hdz1; have hcz0 := (blk_cell BK2c.out 0).trans rfl; have hcz1 := (blk_cell BK2c.out 1).trans rfl; have hdz0 := (blk_cell BK3c.out 0).trans rfl; have hdz1 := (blk_cell BK3c.out 1).trans rfl) | ((with_reducible refine gate_callee (f := 34) rfl ?_); refine goesL_ (some 10) rfl rfl Tryd.func34 (by kernel_rfl) rfl #[.agg #[.bool true, .slice A1 l1_1.length c1]] rfl (by (try simp only [List.map_toArray, List.map_cons, List.map_nil]); first | done | rfl) ?_; refine (white_can.calls (l1_1.length + 1) true A1 c1 l1_1 true _ ?s1 ?s2 HCb.out).mono ?_; (case s1 => exact Kd.C_below HR1.out HB3.out); (case s2 => exact HC1.out); rintro e w4 ⟨rfl, hb⟩; refine ⟨_, rfl, ?_⟩; have HB4 := Aside0.mk (below_step HB3.out hb); have BK2d := Aside0.mk (blk_below BK2c.out hb); have BK3d := Aside0.mk (blk_below BK3c.out hb); clear hb hcz0 hcz1 hdz0 hdz1; have hcz0 := (blk_cell BK2d.out 0).trans rfl; have hcz1 := (blk_cell BK2d.out 1).trans rfl; have hdz0 := (blk_cell BK3d.out 0).trans rfl; have hdz1 := (blk_cell BK3d.out 1).trans rfl))
      go_ret
      exact ⟨rfl, HB4.out⟩
    | false =>
      obtain rfl : r = false := by simpa using hr
      clear hr
      go_enter Tryd.func40, Tryd.ntmps40
      go_wp2_with (first | ((with_reducible refine gate_dst (N := 2) rfl ?_); refine box_event ?hg (N := 2) ?hd (cs := #[.bool true, .slice A0 l0_1.length c0]) (t := 24) ?hr ?_; (case hd => rfl); (case hg => rfl); (case hr => first | (go_simp; done) | (go_simp; rfl)); intro g2 hg w1 BK hb; have BK2 := Aside0.mk BK; have HB1 := Aside0.mk hb; clear BK hb hg) | ((with_reducible refine gate_dst (N := 3) rfl ?_); refine box_event ?hg (N := 3) ?hd (cs := #[.bool false, .slice A1 l1_1.length c1]) (t := 24) ?hr ?_; (case hd => rfl); (case hg => rfl); (case hr => first | (go_simp; done) | (go_simp; rfl)); intro g3 hg w2 BK hb; have BK3 := Aside0.mk BK; have HB2 := Aside0.mk (below_step HB1.out hb); have BK2b := Aside0.mk (blk_below BK2.out hb); have hnb := Nat.ne_of_lt (blk_lt BK2.out); rw [← hg] at hnb; clear BK hb hg; have hcz0 := (blk_cell BK2b.out 0).trans rfl; have hcz1 := (blk_cell BK2b.out 1).trans rfl; have hdz0 := (blk_cell BK3.out 0).trans rfl; have hdz1 := (blk_cell BK3.out 1).trans rfl) | ((with_reducible refine gate_callee (f := 34) rfl ?_); refine goesL_ (some 7) rfl rfl Tryd.func34 (by kernel_rfl) rfl #[.agg #[.bool true, .slice A0 l0_1.length c0]] rfl (by (try simp only [List.map_toArray, List.map_cons, List.map_nil]); first | done | rfl) ?_; refine (white_can.calls (l0_1.length + 1) true A0 c0 l0_1 true _ ?s1 ?s2 HCa.out).mono ?_; (case s1 => exact Kd.C_below HR0.out HB2.out); (case s2 => exact HC0.out); rintro e w3 ⟨rfl, hb⟩; refine ⟨_, rfl, ?_⟩; have HB3 := Aside0.mk (below_step HB2.out hb); have BK2c := Aside0.mk (blk_below BK2b.out hb); have BK3c := Aside0.mk (blk_below BK3.out hb); clear hb hcz0 hcz1 hdz0 hdz1; have hcz0 := (blk_cell BK2c.out 0).trans rfl; have hcz1 := (blk_cell BK2c.out 1).trans rfl; have hdz0 := (blk_cell BK3c.out 0).trans rfl; have hdz1 := (blk_cell BK3c.out 1).trans rfl) | ((with_reducible refine gate_callee (f := 34) rfl ?_); refine goesL_ (some 10) rfl rfl Tryd.func34 (by kernel_rfl) rfl #[.agg #[.bool false, .slice A1 l1_1.length c1]] rfl (by (try simp only [List.map_toArray, List.map_cons, List.map_nil]); first | done | rfl) ?_; refine (white_can.calls (l1_1.length + 1) false A1 c1 l1_1 true _ ?s1 ?s2 HCb.out).mono ?_; (case s1 => exact Kd.C_below HR1.out HB3.out); (case s2 => exact HC1.out); rintro e w4 ⟨rfl, hb⟩; refine ⟨_, rfl, ?_⟩; have HB4 := Aside0.mk (below_step HB3.out hb); have BK2d := Aside0.mk (blk_below BK2c.out hb); have BK3d := Aside0.mk (blk_below BK3c.out hb); clear hb hcz0 hcz1 hdz0 hdz1; have hcz0 := (blk_cell BK2d.out 0).trans rfl; have hcz1 := (blk_cell BK2d.out 1).trans rfl; have hdz0 := (blk_cell BK3d.out 0).trans rfl; have hdz1 := (blk_cell BK3d.out 1).trans rfl))
      go_ret
      exact ⟨rfl, HB4.out⟩
  | false =>
    cases a1_0 with
    | true =>
      obtain rfl : r = true := by simpa using hr
      clear hr
      go_enter Tryd.func40, Tryd.ntmps40
      go_wp2_with (first | ((with_reducible refine gate_dst (N := 2) rfl ?_); refine box_event ?hg (N := 2) ?hd (cs := #[.bool false, .slice A0 l0_1.length c0]) (t := 24) ?hr ?_; (case hd => rfl); (case hg => rfl); (case hr => first | (go_simp; done) | (go_simp; rfl)); intro g2 hg w1 BK hb; have BK2 := Aside0.mk BK; have HB1 := Aside0.mk hb; clear BK hb hg) | ((with_reducible refine gate_dst (N := 3) rfl ?_); refine box_event ?hg (N := 3) ?hd (cs := #[.bool true, .slice A1 l1_1.length c1]) (t := 24) ?hr ?_; (case hd => rfl); (case hg => rfl); (case hr => first | (go_simp; done) | (go_simp; rfl)); intro g3 hg w2 BK hb; have BK3 := Aside0.mk BK; have HB2 := Aside0.mk (below_step HB1.out hb); have BK2b := Aside0.mk (blk_below BK2.out hb); have hnb := Nat.ne_of_lt (blk_lt BK2.out); rw [← hg] at hnb; clear BK hb hg; have hcz0 := (blk_cell BK2b.out 0).trans rfl; have hcz1 := (blk_cell BK2b.out 1).trans rfl; have hdz0 := (blk_cell BK3.out 0).trans rfl; have hdz1 := (blk_cell BK3.out 1).trans rfl) | ((with_reducible refine gate_callee (f := 34) rfl ?_); refine goesL_ (some 7) rfl rfl Tryd.func34 (by kernel_rfl) rfl #[.agg #[.bool false, .slice A0 l0_1.length c0]] rfl (by (try simp only [List.map_toArray, List.map_cons, List.map_nil]); first | done | rfl) ?_; refine (white_can.calls (l0_1.length + 1) false A0 c0 l0_1 true _ ?s1 ?s2 HCa.out).mono ?_; (case s1 => exact Kd.C_below HR0.out HB2.out); (case s2 => exact HC0.out); rintro e w3 ⟨rfl, hb⟩; refine ⟨_, rfl, ?_⟩; have HB3 := Aside0.mk (below_step HB2.out hb); have BK2c := Aside0.mk (blk_below BK2b.out hb); have BK3c := Aside0.mk (blk_below BK3.out hb); clear hb hcz0 hcz1 hdz0 hdz1; have hcz0 := (blk_cell BK2c.out 0).trans rfl; have hcz1 := (blk_cell BK2c.out 1).trans rfl; have hdz0 := (blk_cell BK3c.out 0).trans rfl; have hdz1 := (blk_cell BK3c.out 1).trans rfl) | ((with_reducible refine gate_callee (f := 34) rfl ?_); refine goesL_ (some 10) rfl rfl Tryd.func34 (by kernel_rfl) rfl #[.agg #[.bool true, .slice A1 l1_1.length c1]] rfl (by (try simp only [List.map_toArray, List.map_cons, List.map_nil]); first | done | rfl) ?_; refine (white_can.calls (l1_1.length + 1) true A1 c1 l1_1 true _ ?s1 ?s2 HCb.out).mono ?_; (case s1 => exact Kd.C_below HR1.out HB3.out); (case s2 => exact HC1.out); rintro e w4 ⟨rfl, hb⟩; refine ⟨_, rfl, ?_⟩; have HB4 := Aside0.mk (below_step HB3.out hb); have BK2d := Aside0.mk (blk_below BK2c.out hb); have BK3d := Aside0.mk (blk_below BK3c.out hb); clear hb hcz0 hcz1 hdz0 hdz1; have hcz0 := (blk_cell BK2d.out 0).trans rfl; have hcz1 := (blk_cell BK2d.out 1).trans rfl; have hdz0 := (blk_cell BK3d.out 0).trans rfl; have hdz1 := (blk_cell BK3d.out 1).trans rfl))
      go_ret
      exact ⟨rfl, HB4.out⟩
    | false =>
      have HF := Aside0.mk (show r = !(l0_1.any fun c => !hasB false l1_1 c) by rw [hr, List.all_eq_not_any_not]; simp)
      clear hr
      go_enter Tryd.func40, Tryd.ntmps40
      go_wp2_with (first | ((with_reducible refine gate_dst (N := 2) rfl ?_); refine box_event ?hg (N := 2) ?hd (cs := #[.bool false, .slice A0 l0_1.length c0]) (t := 24) ?hr ?_; (case hd => rfl); (case hg => rfl); (case hr => first | (go_simp; done) | (go_simp; rfl)); intro g2 hg w1 BK hb; have BK2 := Aside0.mk BK; have HB1 := Aside0.mk hb; clear BK hb hg) | ((with_reducible refine gate_dst (N := 3) rfl ?_); refine box_event ?hg (N := 3) ?hd (cs := #[.bool false, .slice A1 l1_1.length c1]) (t := 24) ?hr ?_; (case hd => rfl); (case hg => rfl); (case hr => first | (go_simp; done) | (go_simp; rfl)); intro g3 hg w2 BK hb; have BK3 := Aside0.mk BK; have HB2 := Aside0.mk (below_step HB1.out hb); have BK2b := Aside0.mk (blk_below BK2.out hb); have hnb := Nat.ne_of_lt (blk_lt BK2.out); rw [← hg] at hnb; clear BK hb hg; have hcz0 := (blk_cell BK2b.out 0).trans rfl; have hcz1 := (blk_cell BK2b.out 1).trans rfl; have hdz0 := (blk_cell BK3.out 0).trans rfl; have hdz1 := (blk_cell BK3.out 1).trans rfl) | ((with_reducible refine gate_callee (f := 34) rfl ?_); refine goesL_ (some 7) rfl rfl Tryd.func34 (by kernel_rfl) rfl #[.agg #[.bool false, .slice A0 l0_1.length c0]] rfl (by (try simp only [List.map_toArray, List.map_cons, List.map_nil]); first | done | rfl) ?_; refine (white_can.calls (l0_1.length + 1) false A0 c0 l0_1 true _ ?s1 ?s2 HCa.out).mono ?_; (case s1 => exact Kd.C_below HR0.out HB2.out); (case s2 => exact HC0.out); rintro e w3 ⟨rfl, hb⟩; refine ⟨_, rfl, ?_⟩; have HB3 := Aside0.mk (below_step HB2.out hb); have BK2c := Aside0.mk (blk_below BK2b.out hb); have BK3c := Aside0.mk (blk_below BK3.out hb); clear hb hcz0 hcz1 hdz0 hdz1; have hcz0 := (blk_cell BK2c.out 0).trans rfl; have hcz1 := (blk_cell BK2c.out 1).trans rfl; have hdz0 := (blk_cell BK3c.out 0).trans rfl; have hdz1 := (blk_cell BK3c.out 1).trans rfl) | ((with_reducible refine gate_callee (f := 34) rfl ?_); refine goesL_ (some 10) rfl rfl Tryd.func34 (by kernel_rfl) rfl #[.agg #[.bool false, .slice A1 l1_1.length c1]] rfl (by (try simp only [List.map_toArray, List.map_cons, List.map_nil]); first | done | rfl) ?_; refine (white_can.calls (l1_1.length + 1) false A1 c1 l1_1 true _ ?s1 ?s2 HCb.out).mono ?_; (case s1 => exact Kd.C_below HR1.out HB3.out); (case s2 => exact HC1.out); rintro e w4 ⟨rfl, hb⟩; refine ⟨_, rfl, ?_⟩; have HB4 := Aside0.mk (below_step HB3.out hb); have BK2d := Aside0.mk (blk_below BK2c.out hb); have BK3d := Aside0.mk (blk_below BK3c.out hb); clear hb hcz0 hcz1 hdz0 hdz1; have hcz0 := (blk_cell BK2d.out 0).trans rfl; have hcz1 := (blk_cell BK2d.out 1).trans rfl; have hdz0 := (blk_cell BK3d.out 0).trans rfl; have hdz1 := (blk_cell BK3d.out 1).trans rfl) | ((with_reducible refine gate_callee (f := 49) rfl ?_); refine goesL_ (some 24) rfl rfl Tryd.func49 (by kernel_rfl) rfl #[.slice A0 l0_1.length c0, .func (.func 50) #[] #[.pointer (some ⟨g3, 0, none⟩)]] rfl (by (try simp only [List.map_toArray, List.map_cons, List.map_nil]); first | done | rfl) ?_; refine (cont_calls A0 c0 l0_1 g3 false A1 c1 l1_1 _ ?s0 ?s1 HC0.out ?s2 ?s3 HC1.out HN1.out).mono ?_; (case s0 => exact BK3d.out); (case s1 => exact Kd.C_below HR0.out HB4.out); (case s2 => have := HN0.out; omega); (case s3 => exact Kd.C_below HR1.out HB4.out); rintro e w5 ⟨rfl, hb⟩; refine ⟨_, rfl, ?_⟩; have HB5 := Aside0.mk (below_step HB4.out hb); clear hb))
      go_ret
      exact ⟨by rw [HF.out]; rfl, HB5.out⟩
end Go.Proofs.YtphblnibjiohjaaDoor.PA
