/- white.made: the list sorted, each number once, is a whitelist or none. -/
import Derived.Test.YtphblnibjiohjaaDoorLib
import Derived.Test.YtphblnibjiohjaaDoorCan
namespace Go.Proofs.YtphblnibjiohjaaDoor.PA
open Go.RowKit Go.Proofs.YtphblnibjiohjaaDoorW.PrintWords Go.Proofs.YtphblnibjiohjaaDoorW.PrintLast Go.Proofs.YtphblnibjiohjaaDoorW.PrintMore Go.Proofs.YtphblnibjiohjaaDoor.LibRow
set_option linter.unusedVariables false
set_option linter.unusedSimpArgs false

def madeL (l : List Int) : List Int := Lib.compact (sorted l)
def white_made.f (l0 : List Int) : Option (Bool × List Int × Int) :=
  if l0.length * 8 ≤ 140737488355328 then (if canL (madeL l0) = true then some (false, madeL l0, 0) else some (false, [], 22)) else none

theorem R_C {α : Type} {d : Kd α} {e : Nat} {w : World} {base : Nat} {ok : Nat → Prop} {A : Option Addr} {c : Nat} {xs : List α} (h : d.R e w base ok (.slice A xs.length c) xs) : xs.length ≤ c ∧ d.C w A xs.length xs := by
  obtain ⟨A', c', he, hl, hc⟩ := Kd.R_reads h
  injection he with h1 h2 h3
  subst h1 h3
  exact ⟨hl, hc⟩

theorem row_away {w : World} {base : Nat} {ok : Nat → Prop} {v : Value} {xs : List Int} (h : Kd.R (Kd.int .i64) 3 w base ok v xs) {g : Nat} (hg : g < base) : some g ≠ v.ownBlock := by
  intro e
  have := own_base (Kd.own_of_R h) g e.symm
  omega

set_option maxHeartbeats 2000000 in
set_option maxRecDepth 100000 in
theorem white_made.calls (A0 : Option Addr) (c0 : Nat) (l0 : List Int) (r1 : Bool) (r2 : List Int) (r3 : Int) (w : World) (hr0 : Kd.C (Kd.int .i64) w A0 l0.length l0) (hc0 : l0.length ≤ c0) (h : white_made.f l0 = some (r1, r2, r3)) :
    Calls Tryd.prog 38 #[.slice A0 l0.length c0] w fun e w' => ∃ v1_ : Value, e = .returned (.tuple #[.agg #[.bool r1, v1_], .int .i64 r3]) ∧ Kd.R (Kd.int .i64) 3 w' w.heap.size (fun _ => True) v1_ r2 ∧ Below w.heap.size w w' := by
  have hu := Tryd.underlying24
  have HR0 := Aside0.mk hr0
  clear hr0
  unfold white_made.f at h
  by_cases hbig : l0.length * 8 ≤ 140737488355328
  · rw [if_pos hbig] at h
    have HBig := Aside0.mk hbig
    have hlen : (sorted l0).length = l0.length := by simp [sorted]
    have hmade : (madeL l0).length ≤ l0.length := by unfold madeL; exact hlen ▸ Lib.compact_length_le (sorted l0)
    have HCan := Aside0.mk (can_eq (madeL l0) (by omega) ((madeL l0).length + 1) (by omega))
    have HLen := Aside0.mk (And.intro hlen hmade)
    clear hlen hmade hbig
    by_cases hcan : canL (madeL l0) = true
    · rw [if_pos hcan] at h
      rw [hcan] at HCan
      obtain ⟨rfl, rfl, rfl⟩ := by simpa using h
      clear h hcan
      go_enter Tryd.func38, Tryd.ntmps38
      go_wp2_with (first
        | ((with_reducible refine gate_dst (N := 2) rfl ?_); refine box_event ?hg (N := 2) ?hd (cs := #[.bool false, .slice none 0 0]) (t := 24) ?hr ?_; (case hd => rfl); (case hg => rfl); (case hr => first | (go_simp; done) | (go_simp; rfl)); intro g2 hg w1 BK hb; have BK2 := Aside0.mk BK; have HB1 := Aside0.mk hb; have HG2 := Aside0.mk hg; clear BK hb hg)
        | ((with_reducible refine gate_callee (f := 46) rfl ?_); refine goesL_ (some 6) rfl rfl Tryd.func46 (by kernel_rfl) rfl #[.slice A0 l0.length c0] rfl (by (try simp only [List.map_toArray, List.map_cons, List.map_nil]); first | done | rfl) ?_; refine (clone_row A0 c0 l0 _ ?s1 ?s2).mono ?_; (case s1 => exact Kd.C_below HR0.out HB1.out); (case s2 => exact HBig.out); rintro e w2 ⟨v1, rfl, ho, hb⟩; refine ⟨_, rfl, ?_⟩; have HO1 := Aside0.mk ho; have BK2b := Aside0.mk (blk_below BK2.out hb); have HB2 := Aside0.mk (below_step HB1.out hb); clear ho hb)
        | ((with_reducible refine gate_callee (f := 47) rfl ?_); refine goesL_ (some 8) rfl rfl Tryd.func47 (by kernel_rfl) rfl #[v1] rfl (by (try simp only [List.map_toArray, List.map_cons, List.map_nil]); first | done | rfl) ?_; refine (sort_row HO1.out ?s1).mono ?_; (case s1 => have := HBig.out; omega); rintro e w3 ⟨rfl, ho, hgr⟩; refine ⟨_, rfl, ?_⟩; have HO2 := Aside0.mk ho; have BK2c := Aside0.mk (blk_grown BK2b.out hgr (row_away HO1.out (blk_lt BK2.out))); have HB3 := Aside0.mk (HB2.out.grown hgr HB2.out.size (fun k hk => Nat.le_trans HB1.out.size (own_base (Kd.own_of_R HO1.out) k hk))); clear ho hgr)
        | ((with_reducible refine gate_callee (f := 48) rfl ?_); refine goesL_ (some 10) rfl rfl Tryd.func48 (by kernel_rfl) rfl #[v1] rfl (by (try simp only [List.map_toArray, List.map_cons, List.map_nil]); first | done | rfl) ?_; refine (compact_row HO2.out ?s1).mono ?_; (case s1 => have := HBig.out; have := HLen.out; omega); rintro e w4 ⟨v2, rfl, hown, ho, hgr⟩; refine ⟨_, rfl, ?_⟩; have HO3 := Aside0.mk (show Kd.R (Kd.int .i64) 3 w4 w1.heap.size (fun _ => True) v2 (madeL l0) from ho); have BK2d := Aside0.mk (blk_grown BK2c.out hgr (row_away HO2.out (blk_lt BK2.out))); have HB4 := Aside0.mk (HB3.out.grown hgr HB3.out.size (fun k hk => Nat.le_trans HB1.out.size (own_base (Kd.own_of_R HO2.out) k hk))); clear ho hgr hown; obtain ⟨A2, c2, eo⟩ := Kd.R_slice HO3.out; subst eo)
        | ((with_reducible refine gate_dst (N := 4) rfl ?_); refine box_event ?hg (N := 4) ?hd (cs := #[.bool false, .slice none 0 0]) (t := 24) ?hr ?_; (case hd => rfl); (case hg => rfl); (case hr => first | (go_simp; done) | (go_simp; rfl)); intro g4 hg w5 BK hb; have BK4 := Aside0.mk BK; have BK2e := Aside0.mk (blk_below BK2d.out hb); have HB5 := Aside0.mk (below_step HB4.out hb); have HO4 := Aside0.mk (Kd.R_types (Kd.R_below HO3.out hb) BK (by decide)); have HG4 := Aside0.mk (show w.heap.size ≤ g4 by rw [hg]; exact HB4.out.size); have NB := Aside0.mk (show g2 ≠ g4 by rw [hg]; exact Nat.ne_of_lt (blk_lt BK2d.out)); clear BK hb hg; have hnb := NB.out; have hcz0 := (blk_cell BK4.out 0).trans rfl; have hcz1 := (blk_cell BK4.out 1).trans rfl; have hfz0 := blk_frozen BK4.out 0; have hfz1 := blk_frozen BK4.out 1)
        | ((with_reducible refine gate_callee (f := 34) rfl ?_); refine goesL_ (some 13) rfl rfl Tryd.func34 (by kernel_rfl) rfl #[.agg #[.bool false, .slice A2 (madeL l0).length c2]] rfl (by (try simp only [List.map_toArray, List.map_cons, List.map_nil]); first | done | rfl) ?_; have HO5 := Aside0.mk (Kd.R_far (p := ⟨g4, 1, none⟩) (Kd.R_far (p := ⟨g4, 0, none⟩) HO4.out (fun _ hk => hk.2) (.bool false)) (fun _ hk => hk.2) (.slice A2 (madeL l0).length c2)); refine (white_can.calls ((madeL l0).length + 1) false A2 c2 (madeL l0) true _ ?s1 ?s2 HCan.out).mono ?_; (case s1 => exact (R_C HO5.out).2); (case s2 => exact (R_C HO5.out).1); rintro e w6 ⟨rfl, hb⟩; refine ⟨_, rfl, ?_⟩; have HO6 := Aside0.mk (Kd.R_below HO5.out hb); have BK4b := Aside0.mk (blk_below (blk_put (cs' := #[.bool false, .slice A2 (madeL l0).length c2]) (blk_put (cs' := #[.bool false, .slice none 0 0]) BK4.out 0 (.bool false) rfl) 1 (.slice A2 (madeL l0).length c2) rfl) hb); have BK2f := Aside0.mk (blk_below (blk_far (p := ⟨g4, 1, none⟩) (blk_far (p := ⟨g4, 0, none⟩) BK2e.out NB.out (.bool false)) NB.out (.slice A2 (madeL l0).length c2)) hb); have HB6 := Aside0.mk (below_step (below_set (below_set HB5.out HG4.out) HG4.out) hb); clear hb; clear hcz0 hcz1 hfz0 hfz1; have hcz0 := (blk_cell BK4b.out 0).trans rfl; have hcz1 := (blk_cell BK4b.out 1).trans rfl; have hdz0 := (blk_cell BK2f.out 0).trans rfl; have hdz1 := (blk_cell BK2f.out 1).trans rfl; have hez0 := blk_frozen BK2f.out 0; have hez1 := blk_frozen BK2f.out 1))
      refine bodyPost_ret (results_ct rfl _ _ g2 24 #[.bool false, .slice A2 (madeL l0).length c2] (0, 0) _ rfl (blk_put (cs := #[.bool false, .slice none 0 0]) (blk_put (cs := #[.bool false, .slice none 0 0]) BK2f.out 0 (.bool false) rfl) 1 _ rfl) Tryd.underlying24 rfl (by kernel_rfl)) rfl ?_
      have hg2 := HG2.out
      exact ⟨_, rfl, Kd.R_mono (Kd.R_lower (Kd.R_far (p := ⟨g2, 1, none⟩) (Kd.R_far (p := ⟨g2, 0, none⟩) (Kd.R_types HO6.out BK2f.out (by decide)) (fun _ hk => hk.2) _) (fun _ hk => hk.2) _) HB1.out.size) (fun _ _ => trivial), below_set (below_set HB6.out (Nat.le_of_eq hg2.symm)) (Nat.le_of_eq hg2.symm)⟩
    · rw [if_neg hcan] at h
      rw [Bool.eq_false_iff.mpr hcan] at HCan
      obtain ⟨rfl, rfl, rfl⟩ := by simpa using h
      clear h hcan
      go_enter Tryd.func38, Tryd.ntmps38
      go_wp2_with (first
        | ((with_reducible refine gate_dst (N := 2) rfl ?_); refine box_event ?hg (N := 2) ?hd (cs := #[.bool false, .slice none 0 0]) (t := 24) ?hr ?_; (case hd => rfl); (case hg => rfl); (case hr => first | (go_simp; done) | (go_simp; rfl)); intro g2 hg w1 BK hb; have BK2 := Aside0.mk BK; have HB1 := Aside0.mk hb; have HG2 := Aside0.mk hg; clear BK hb hg)
        | ((with_reducible refine gate_callee (f := 46) rfl ?_); refine goesL_ (some 6) rfl rfl Tryd.func46 (by kernel_rfl) rfl #[.slice A0 l0.length c0] rfl (by (try simp only [List.map_toArray, List.map_cons, List.map_nil]); first | done | rfl) ?_; refine (clone_row A0 c0 l0 _ ?s1 ?s2).mono ?_; (case s1 => exact Kd.C_below HR0.out HB1.out); (case s2 => exact HBig.out); rintro e w2 ⟨v1, rfl, ho, hb⟩; refine ⟨_, rfl, ?_⟩; have HO1 := Aside0.mk ho; have BK2b := Aside0.mk (blk_below BK2.out hb); have HB2 := Aside0.mk (below_step HB1.out hb); clear ho hb)
        | ((with_reducible refine gate_callee (f := 47) rfl ?_); refine goesL_ (some 8) rfl rfl Tryd.func47 (by kernel_rfl) rfl #[v1] rfl (by (try simp only [List.map_toArray, List.map_cons, List.map_nil]); first | done | rfl) ?_; refine (sort_row HO1.out ?s1).mono ?_; (case s1 => have := HBig.out; omega); rintro e w3 ⟨rfl, ho, hgr⟩; refine ⟨_, rfl, ?_⟩; have HO2 := Aside0.mk ho; have BK2c := Aside0.mk (blk_grown BK2b.out hgr (row_away HO1.out (blk_lt BK2.out))); have HB3 := Aside0.mk (HB2.out.grown hgr HB2.out.size (fun k hk => Nat.le_trans HB1.out.size (own_base (Kd.own_of_R HO1.out) k hk))); clear ho hgr)
        | ((with_reducible refine gate_callee (f := 48) rfl ?_); refine goesL_ (some 10) rfl rfl Tryd.func48 (by kernel_rfl) rfl #[v1] rfl (by (try simp only [List.map_toArray, List.map_cons, List.map_nil]); first | done | rfl) ?_; refine (compact_row HO2.out ?s1).mono ?_; (case s1 => have := HBig.out; have := HLen.out; omega); rintro e w4 ⟨v2, rfl, hown, ho, hgr⟩; refine ⟨_, rfl, ?_⟩; have HO3 := Aside0.mk (show Kd.R (Kd.int .i64) 3 w4 w1.heap.size (fun _ => True) v2 (madeL l0) from ho); have BK2d := Aside0.mk (blk_grown BK2c.out hgr (row_away HO2.out (blk_lt BK2.out))); have HB4 := Aside0.mk (HB3.out.grown hgr HB3.out.size (fun k hk => Nat.le_trans HB1.out.size (own_base (Kd.own_of_R HO2.out) k hk))); clear ho hgr hown; obtain ⟨A2, c2, eo⟩ := Kd.R_slice HO3.out; subst eo)
        | ((with_reducible refine gate_dst (N := 4) rfl ?_); refine box_event ?hg (N := 4) ?hd (cs := #[.bool false, .slice none 0 0]) (t := 24) ?hr ?_; (case hd => rfl); (case hg => rfl); (case hr => first | (go_simp; done) | (go_simp; rfl)); intro g4 hg w5 BK hb; have BK4 := Aside0.mk BK; have BK2e := Aside0.mk (blk_below BK2d.out hb); have HB5 := Aside0.mk (below_step HB4.out hb); have HO4 := Aside0.mk (Kd.R_types (Kd.R_below HO3.out hb) BK (by decide)); have HG4 := Aside0.mk (show w.heap.size ≤ g4 by rw [hg]; exact HB4.out.size); have NB := Aside0.mk (show g2 ≠ g4 by rw [hg]; exact Nat.ne_of_lt (blk_lt BK2d.out)); clear BK hb hg; have hnb := NB.out; have hcz0 := (blk_cell BK4.out 0).trans rfl; have hcz1 := (blk_cell BK4.out 1).trans rfl; have hfz0 := blk_frozen BK4.out 0; have hfz1 := blk_frozen BK4.out 1)
        | ((with_reducible refine gate_callee (f := 34) rfl ?_); refine goesL_ (some 13) rfl rfl Tryd.func34 (by kernel_rfl) rfl #[.agg #[.bool false, .slice A2 (madeL l0).length c2]] rfl (by (try simp only [List.map_toArray, List.map_cons, List.map_nil]); first | done | rfl) ?_; have HO5 := Aside0.mk (Kd.R_far (p := ⟨g4, 1, none⟩) (Kd.R_far (p := ⟨g4, 0, none⟩) HO4.out (fun _ hk => hk.2) (.bool false)) (fun _ hk => hk.2) (.slice A2 (madeL l0).length c2)); refine (white_can.calls ((madeL l0).length + 1) false A2 c2 (madeL l0) false _ ?s1 ?s2 HCan.out).mono ?_; (case s1 => exact (R_C HO5.out).2); (case s2 => exact (R_C HO5.out).1); rintro e w6 ⟨rfl, hb⟩; refine ⟨_, rfl, ?_⟩; have HO6 := Aside0.mk (Kd.R_below HO5.out hb); have BK4b := Aside0.mk (blk_below (blk_put (cs' := #[.bool false, .slice A2 (madeL l0).length c2]) (blk_put (cs' := #[.bool false, .slice none 0 0]) BK4.out 0 (.bool false) rfl) 1 (.slice A2 (madeL l0).length c2) rfl) hb); have BK2f := Aside0.mk (blk_below (blk_far (p := ⟨g4, 1, none⟩) (blk_far (p := ⟨g4, 0, none⟩) BK2e.out NB.out (.bool false)) NB.out (.slice A2 (madeL l0).length c2)) hb); have HB6 := Aside0.mk (below_step (below_set (below_set HB5.out HG4.out) HG4.out) hb); clear hb; clear hcz0 hcz1 hfz0 hfz1; have hcz0 := (blk_cell BK4b.out 0).trans rfl; have hcz1 := (blk_cell BK4b.out 1).trans rfl; have hdz0 := (blk_cell BK2f.out 0).trans rfl; have hdz1 := (blk_cell BK2f.out 1).trans rfl; have hez0 := blk_frozen BK2f.out 0; have hez1 := blk_frozen BK2f.out 1))
      refine bodyPost_ret (results_ct rfl _ _ g2 24 #[.bool false, .slice none 0 0] (0, 0) _ rfl (blk_put (cs := #[.bool false, .slice none 0 0]) (blk_put (cs := #[.bool false, .slice none 0 0]) BK2f.out 0 (.bool false) rfl) 1 _ rfl) Tryd.underlying24 rfl (by kernel_rfl)) rfl ?_
      have hg2 := HG2.out
      exact ⟨_, rfl, Kd.R_nil _ _ _ _ _, below_set (below_set HB6.out (Nat.le_of_eq hg2.symm)) (Nat.le_of_eq hg2.symm)⟩
  · rw [if_neg hbig] at h
    cases h
end Go.Proofs.YtphblnibjiohjaaDoor.PA
