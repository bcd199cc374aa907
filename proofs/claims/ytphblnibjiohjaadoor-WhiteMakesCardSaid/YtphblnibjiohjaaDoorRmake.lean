/- purlieuref02.Make: the whitelist of any commands, one by one. -/
import Derived.Test.YtphblnibjiohjaaDoorW1
import Derived.Test.YtphblnibjiohjaaDoorMade
import Derived.Deep.RegionLaw
import Derived.Outline
import Derived.Test.YtphblnibjiohjaaDoorAnd
namespace Go.Proofs.YtphblnibjiohjaaDoor.PA
open Go.RowKit Go.Proofs.YtphblnibjiohjaaDoorW.PrintWords Go.Proofs.YtphblnibjiohjaaDoorW.PrintLast Go.Proofs.YtphblnibjiohjaaDoorW.PrintMore
set_option linter.unusedVariables false
set_option linter.unusedSimpArgs false

def kOf (acc : List Int) (x : Int) : Nat := (acc.takeWhile fun y => decide (y < x)).length
def rIns (acc : List Int) (x : Int) : List Int := (acc.take (kOf acc x) ++ [x]) ++ acc.drop (kOf acc x)
def rmake : List Int → List Int → Option (List Int)
  | acc, [] => some acc
  | acc, x :: r => if x < 0 then none else if acc.contains x = true then rmake acc r else if 32 < (rIns acc x).length then none else rmake (rIns acc x) r
def purlieuref02_Make.f (l0 : List Int) : Option (Bool × List Int × Int) :=
  if l0.length * 8 ≤ 140737488355328 then (match rmake [] l0 with | some a => some (false, a, 0) | none => some (false, [], 22)) else none

theorem kOf_le (acc : List Int) (x : Int) : kOf acc x ≤ acc.length := by
  unfold kOf
  exact (List.takeWhile_prefix _).length_le
theorem kOf_lt (acc : List Int) (x : Int) (j : Nat) (h : j < kOf acc x) : acc.getD j 0 < x := by
  have hl := kOf_le acc x
  have hp := List.takeWhile_prefix (p := fun y => decide (y < x)) (l := acc)
  have h1 : (acc.takeWhile fun y => decide (y < x))[j]'h = acc[j] := hp.getElem h
  rw [gd (by omega), ← h1]
  have := List.all_takeWhile (l := acc) (p := fun y => decide (y < x))
  rw [List.all_eq_true] at this
  simpa using this _ (List.getElem_mem h)
theorem kOf_at (acc : List Int) (x : Int) (h : kOf acc x < acc.length) : ¬ acc.getD (kOf acc x) 0 < x := by
  unfold kOf at h ⊢
  induction acc with
  | nil => simp at h
  | cons a r ih =>
    by_cases ha : a < x
    · simp only [List.takeWhile_cons, ha, decide_true, if_true, List.length_cons] at h ⊢
      simpa using ih (by omega)
    · simp [List.takeWhile_cons, ha]

theorem take_C {w : World} {A : Option Addr} {acc : List Int} {k : Nat} (h : Kd.C (Kd.int .i64) w A acc.length acc) (hk : k ≤ acc.length) : ∀ w', Below w.heap.size w w' → Kd.C (Kd.int .i64) w' A k (acc.take k) := by
  intro w' hb
  have := Kd.C_take (m := k) (Kd.C_below h hb) hk
  rwa [List.length_take, Nat.min_eq_left hk] at this
theorem drop_C {w : World} {A : Option Addr} {acc : List Int} {k c : Nat} (h : Kd.C (Kd.int .i64) w A acc.length acc) (hk : k ≤ acc.length) (hc : acc.length ≤ c) : ∀ w', Below w.heap.size w w' → Kd.C (Kd.int .i64) w' (if c = k then A else A.map fun x => x.add k) (acc.length - k) (acc.drop k) := by
  intro w' hb
  have := Kd.C_drop (m := k) (Kd.C_below h hb) hk hc
  rw [List.length_drop] at this
  simpa [show (Kd.int .i64).sz = 1 from rfl] using this

set_option maxHeartbeats 4000000 in
set_option maxRecDepth 100000 in
theorem purlieuref02_Make.calls (A0 : Option Addr) (c0 : Nat) (l0 : List Int) (r1 : Bool) (r2 : List Int) (r3 : Int) (w : World) (hr0 : Kd.C (Kd.int .i64) w A0 l0.length l0) (hc0 : l0.length ≤ c0) (h : purlieuref02_Make.f l0 = some (r1, r2, r3)) :
    Calls Tryd.prog 19 #[.slice A0 l0.length c0] w fun e w' => ∃ v1_ : Value, e = .returned (.tuple #[.agg #[.bool r1, v1_], .int .i64 r3]) ∧ Kd.R (Kd.int .i64) 3 w' w.heap.size (fun _ => True) v1_ r2 ∧ Below w.heap.size w w' := by
  have hu := Tryd.underlying24
  unfold purlieuref02_Make.f at h
  by_cases hn : l0.length * 8 ≤ 140737488355328
  case neg => rw [if_neg hn] at h; cases h
  rw [if_pos hn] at h
  have HR0 := Aside0.mk hr0
  have HN := Aside0.mk hn
  have HF := Aside0.mk (show (match rmake [] (l0.drop (0 : Int).toNat) with | some a => some (false, a, (0 : Int)) | none => some (false, [], (22 : Int))) = some (r1, r2, r3) from h)
  clear hr0 hn h hc0
  go_enter Tryd.func19, Tryd.ntmps19
  go_wp2_with (first
    | ((with_reducible refine gate_dst (N := 2) rfl ?_); refine box_event ?hg (N := 2) ?hd (cs := #[.bool false, .slice none 0 0]) (t := 24) ?hr ?_; (case hd => rfl); (case hg => rfl); (case hr => first | (go_simp; done) | (go_simp; rfl)); intro g2 hg w1 BK hb; have BK2 := Aside0.mk BK; have HB1 := Aside0.mk hb; have GE2 := Aside0.mk (show w.heap.size ≤ g2 from Nat.le_of_eq hg.symm); clear BK hb hg)
    | ((with_reducible refine gate_dst (N := 4) rfl ?_); refine box_event ?hg (N := 4) ?hd (cs := #[.bool false, .slice none 0 0]) (t := 24) ?hr ?_; (case hd => rfl); (case hg => rfl); (case hr => first | (go_simp; done) | (go_simp; rfl)); intro g4 hg w2 BK hb; have BK4 := Aside0.mk BK; have HB2 := Aside0.mk (below_step HB1.out hb); have BK2b := Aside0.mk (blk_below BK2.out hb); have GE4 := Aside0.mk (show w.heap.size ≤ g4 by rw [hg]; exact HB1.out.size); have n24 := Nat.ne_of_lt (blk_lt BK2.out); rw [← hg] at n24; clear BK hb hg; have hcza0 := (blk_cell BK4.out 0).trans rfl; have hcza1 := (blk_cell BK4.out 1).trans rfl; have hfza0 := blk_frozen BK4.out 0; have hfza1 := blk_frozen BK4.out 1))
  go_loopg [5, 6] l0.length (fun kq v5 v6 wr => ∃ (i : Int) (acc : List Int) (u : Value), v5 = .int .i64 i ∧ Aside0 (0 ≤ i ∧ i + kq = l0.length ∧ acc.length ≤ 32) ∧ Aside0 ((match rmake acc (l0.drop i.toNat) with | some a => some (false, a, (0 : Int)) | none => some (false, [], (22 : Int))) = some (r1, r2, r3)) ∧ Aside0 (Kd.R (Kd.int .i64) 3 wr w.heap.size (fun _ => True) u acc) ∧ Aside0 (wr.heap[g2]? = some (.cells #[.bool false, .slice none 0 0] 24 (0, 0))) ∧ Aside0 (wr.heap[g4]? = some (.cells #[.bool false, u] 24 (0, 0))) ∧ Aside0 (Below w.heap.size w wr))
  case atStart => exact ⟨0, [], .slice none 0 0, rfl, ⟨by simp⟩, HF, ⟨Kd.R_nil _ _ _ _ _⟩, ⟨blk_far (p := ⟨g4, 1, none⟩) (blk_far (p := ⟨g4, 0, none⟩) BK2b.out n24 _) n24 _⟩, ⟨blk_put (cs := #[.bool false, .slice none 0 0]) (blk_put (cs := #[.bool false, .slice none 0 0]) BK4.out 0 (.bool false) rfl) 1 (.slice none 0 0) rfl⟩, ⟨below_set (below_set HB2.out GE4.out) GE4.out⟩⟩
  case round =>
    rename World => wo
    rename Nat => ko
    clear hcza0 hcza1 hfza0 hfza1 HF
    obtain ⟨i, acc, u, rfl, HK, HF, HO, BK2r, BK4r, HB⟩ := hrel
    obtain ⟨Au, cu, eu⟩ := Kd.R_slice HO.out
    subst eu
    have hcza0 : wo.cell? ⟨g4, 0, none⟩ = some (.bool false) := (blk_cell BK4r.out 0).trans rfl
    have hcza1 : wo.cell? ⟨g4, 1, none⟩ = some (.slice Au acc.length cu) := (blk_cell BK4r.out 1).trans rfl
    have hczb0 : wo.cell? ⟨g2, 0, none⟩ = some (.bool false) := (blk_cell BK2r.out 0).trans rfl
    have hczb1 : wo.cell? ⟨g2, 1, none⟩ = some (.slice none 0 0) := (blk_cell BK2r.out 1).trans rfl
    have hfzb0 := blk_frozen BK2r.out 0
    have hfzb1 := blk_frozen BK2r.out 1
    by_cases hlt : i < (l0.length : Int)
    · have c0_ : decide (i < (l0.length : Int)) = true := decide_eq_true hlt
      obtain ⟨h0, h1, h2⟩ := HK.out
      obtain ⟨ad, ead, hx⟩ := Kd.at_int HR0.out i h0 hlt
      cases ead
      replace hx := (HB.out.cell (World.block_lt_of_cell? w _ hx)).trans hx
      have HX := Aside0.mk (And.intro h0 (And.intro h1 (And.intro hlt h2)))
      have HD := Aside0.mk (show l0.drop i.toNat = rd l0 i :: l0.drop (i + 1).toNat by
        rw [List.drop_eq_getElem_cons (show i.toNat < l0.length by omega), show (i + 1).toNat = i.toNat + 1 by omega]
        show _ = l0.getD i.toNat 0 :: _
        rw [gd (by omega)])
      have q0 := eq_true hlt
      have hx7 : i < 9223372036854775807 := by have := HN.out; omega
      have hx0 := h0
      rw [HD.out] at HF
      have hi1 : i < (l0.length : Int) := hlt
      clear h0 h1 hlt h2
      obtain ⟨x, hxx⟩ : ∃ x, x = rd l0 i := ⟨_, rfl⟩
      rw [← hxx] at hx HF HD
      have HXX := Aside0.mk hxx
      clear hxx
      by_cases hneg : x < 0
      · have cn : decide (x < 0) = true := decide_eq_true hneg
        go_wp2_with fail
        rw [show rmake acc (x :: l0.drop (i + 1).toNat) = none by rw [rmake, if_pos hneg]] at HF
        obtain ⟨rfl, rfl, rfl⟩ : r1 = false ∧ r2 = [] ∧ r3 = 22 := by
          have := HF.out
          simp only [Option.some.injEq, Prod.mk.injEq] at this
          exact ⟨this.1.symm, this.2.1.symm, this.2.2.symm⟩
        refine bodyPost_ret (results_ct rfl _ _ g2 24 #[.bool false, .slice none 0 0] (0, 0) _ rfl (blk_put (cs := #[.bool false, .slice none 0 0]) (blk_put (cs := #[.bool false, .slice none 0 0]) BK2r.out 0 (.bool false) rfl) 1 (.slice none 0 0) rfl) Tryd.underlying24 rfl (by kernel_rfl)) rfl ?_
        exact ⟨_, rfl, Kd.R_nil _ _ _ _ _, below_set (below_set HB.out GE2.out) GE2.out⟩
      · have cn : decide (x < 0) = false := decide_eq_false hneg
        have HNeg := Aside0.mk hneg
        clear hneg
        obtain ⟨ct, hct⟩ : ∃ ct, ct = acc.contains x := ⟨_, rfl⟩
        have HIn := Aside0.mk (rin_eq acc x (by have := HX.out; omega) (acc.length + 1) (by omega))
        rw [← hct] at HIn
        have HCt := Aside0.mk hct
        clear hct
        go_wp2_with fail
        have HCall : Aside0 (∀ n, Calls Tryd.prog 31 #[.slice Au acc.length cu, .int .i64 x] (wo.drewN n) fun e w'' => e = .returned (.bool ct) ∧ ∃ m, w'' = wo.drewN m) := ⟨fun n => Calls.quiet_of ((purlieuref02_In.calls (acc.length + 1) Au cu acc x ct _ (Kd.C_drewN (R_C HO.out).2 n) (R_C HO.out).1 HIn.out).mono fun e w' h => ⟨h.1, h.2.out⟩)⟩
        go_quiet ((go_at_call 31; exact HCall.out _))
        cases ct with
        | true =>
          rw [show rmake acc (x :: l0.drop (i + 1).toNat) = rmake acc (l0.drop (i + 1).toNat) by rw [rmake, if_neg (by have := HNeg.out; omega), ← HCt.out, if_pos rfl]] at HF
          go_wp2_with fail
          go_roundg (ko - 1)
          case measure => have := HX.out; omega
          case rel => exact ⟨i + 1, acc, _, by go_num, ⟨by have := HX.out; omega⟩, HF, ⟨by (with_reducible repeat (first | apply Kd.R_drewN | apply Kd.R_drew)); exact HO.out⟩, ⟨by (with_reducible repeat (first | refine blk_drewN ?_ _ | refine blk_drew ?_)); exact BK2r.out⟩, ⟨by (with_reducible repeat (first | refine blk_drewN ?_ _ | refine blk_drew ?_)); exact BK4r.out⟩, ⟨by repeat (first | exact HB.out | apply pw_below_drewN | apply below_drew1)⟩⟩
        | false =>
          go_wp2_with fail
          go_loopg [6] acc.length (fun kq v6 wr => ∃ j : Nat, v6 = .int .i64 (j : Int) ∧ Aside0 (j ≤ kOf acc x ∧ j + kq = acc.length) ∧ Aside0 (Below wo.heap.size wo wr))
          case atStart => exact ⟨0, rfl, ⟨by omega⟩, ⟨by repeat (first | exact Below.refl _ _ | apply pw_below_drewN | apply below_drew1)⟩⟩
          case round =>
            obtain ⟨j, rfl, HJ, HBq⟩ := hrel
            have L4 := Aside0.mk (Nat.lt_of_lt_of_le (blk_lt BK4r.out) HBq.out.size)
            have LA := Aside0.mk (show (ad.add i.toNat).block < wr.heap.size from Nat.lt_of_lt_of_le (World.block_lt_of_cell? wo _ hx) HBq.out.size)
            have hc4 : wr.cell? ⟨g4, 1, none⟩ = some (.slice Au acc.length cu) := (HBq.out.cell (blk_lt BK4r.out)).trans hcza1
            replace hx : wr.cell? (ad.add i.toNat) = some (.int .i64 x) := (HBq.out.cell (World.block_lt_of_cell? wo _ hx)).trans hx
            clear hcza0 hcza1 hczb0 hczb1 hfzb0 hfzb1
            have hkl := kOf_le acc x
            by_cases hj : j < acc.length
            · have cj : decide ((j : Int) < (acc.length : Int)) = true := decide_eq_true (by omega)
              have hj0 : (0 : Int) ≤ (j : Int) := by omega
              have hj1 : (j : Int) < (acc.length : Int) := by omega
              obtain ⟨ad2, ead2, hy⟩ := Kd.at_int (R_C HO.out).2 (j : Int) hj0 hj1
              cases ead2
              replace hy := (HBq.out.cell (World.block_lt_of_cell? wo _ hy)).trans hy
              simp only [Int.toNat_natCast] at hy
              have hjq := eq_true hj1
              by_cases hyx : rd acc (j : Int) < x
              · have cy : decide (rd acc (j : Int) < x) = true := decide_eq_true hyx
                have hjk : j + 1 ≤ kOf acc x := by
                  rcases Nat.lt_or_ge j (kOf acc x) with h | h
                  · exact h
                  · exfalso
                    have e : j = kOf acc x := by have := HJ.out; omega
                    subst e
                    exact kOf_at acc x hj hyx
                have HJ2 := Aside0.mk hjk
                clear hjk
                go_wp2_with fail
                go_quiet (fail)
                go_wp2_with fail
                go_roundg (gk - 1)
                case measure => have := HJ.out; omega
                case rel => exact ⟨j + 1, by rw [show wrap64 ((j : Int) + 1) = ((j + 1 : Nat) : Int) by (unfold wrap64; have := HX.out; omega)], ⟨by have := HJ.out; have := HJ2.out; omega⟩, ⟨by repeat (first | exact HBq.out | apply pw_below_drewN | apply below_drew1)⟩⟩
              · have cy : decide (rd acc (j : Int) < x) = false := decide_eq_false hyx
                obtain rfl : j = kOf acc x := by
                  rcases Nat.lt_or_ge j (kOf acc x) with h | h
                  · exact absurd (kOf_lt acc x j h) hyx
                  · have := HJ.out; omega
                rw [show rmake acc (x :: l0.drop (i + 1).toNat) = if 32 < (rIns acc x).length then none else rmake (rIns acc x) (l0.drop (i + 1).toNat) by rw [rmake, if_neg (by have := HNeg.out; omega), ← HCt.out, if_neg (by simp)]] at HF
                go_wp2_with fail
                go_quiet (fail)
                go_wp2_with fail
                have HBn := Aside0.mk (show Below wr.heap.size wr (wr.drewN nq).drew by repeat (first | exact Below.refl _ _ | apply pw_below_drewN | apply below_drew1))
                have HKL := Aside0.mk (kOf_le acc x)
                have HCa := Aside0.mk (Kd.C_below (R_C HO.out).2 HBq.out)
                have HCC := Aside0.mk (R_C HO.out).1
                have HLen := Aside0.mk (show acc.length ≤ 32 from HX.out.2.2.2)
                have hkc := eq_true (show kOf acc x ≤ cu by have := HCC.out; have := HKL.out; omega)
                have hka := eq_true (show kOf acc x ≤ acc.length from HKL.out)
                have HCu := Aside0.mk (take_C HCa.out HKL.out)
                have HCd := Aside0.mk (drop_C HCa.out HKL.out HCC.out)
                refine start_ (n := 19) (S := fun w' => w'.cell? ⟨g4, 1, none⟩ = some (.slice (some ad2) acc.length cu) ∧ w'.cell? (ad.add i.toNat) = some (.int .i64 x)) (ds := [18]) #[false, false, false, false, false, false, false, false, false, false, false, false, false, false, false, false, false, false, false] (by kernel_rfl) rfl rfl ⟨(HBn.out.cell L4.out).trans hc4, (HBn.out.cell LA.out).trans hx⟩ (fun hHeld => ?_)
                refine pure_ (i := 1) (N := some 47) (v := ?_) (a' := ?_) #[false, true, false, false, false, false, false, false, false, false, false, false, false, false, false, false, false, false, false] rfl rfl (by kernel_rfl) (fun _ _ _ h => h) (Or.inl ⟨by rfl, ?_⟩) ?_ ?_
                rotate_left
                · intro w'
                  go_simp
                  with_reducible rfl
                rotate_left
                · simp only [Act.put, List.setIfInBounds_toArray, List.set_cons_zero, List.set_cons_succ, i64_w, i32_w]
                  rfl
                refine pure_ (i := 3) (N := some 49) (v := ?_) (a' := ?_) #[false, true, false, true, false, false, false, false, false, false, false, false, false, false, false, false, false, false, false] rfl rfl (by kernel_rfl) (fun _ _ _ h => h) (Or.inl ⟨by rfl, ?_⟩) ?_ ?_
                rotate_left
                · intro w'
                  go_simp
                  with_reducible rfl
                rotate_left
                · simp only [Act.put, List.setIfInBounds_toArray, List.set_cons_zero, List.set_cons_succ, i64_w, i32_w]
                  rfl
                refine pure_ (i := 6) (N := some 52) (v := ?_) (a' := ?_) #[false, true, false, true, false, false, true, false, false, false, false, false, false, false, false, false, false, false, false] rfl rfl (by kernel_rfl) (fun _ _ _ h => h) (Or.inl ⟨by rfl, ?_⟩) ?_ ?_
                rotate_left
                · intro w'
                  go_simp
                  with_reducible rfl
                rotate_left
                · simp only [Act.put, List.setIfInBounds_toArray, List.set_cons_zero, List.set_cons_succ, i64_w, i32_w]
                  rfl
                refine pure_ (i := 7) (N := some 53) (v := ?_) (a' := ?_) #[false, true, false, true, false, false, true, true, false, false, false, false, false, false, false, false, false, false, false] rfl rfl (by kernel_rfl) (fun _ _ _ h => h) (Or.inl ⟨by rfl, ?_⟩) ?_ ?_
                rotate_left
                · intro w'
                  go_simp
                  with_reducible rfl
                rotate_left
                · simp only [Act.put, List.setIfInBounds_toArray, List.set_cons_zero, List.set_cons_succ, i64_w, i32_w]
                  rfl
                refine pure_ (i := 8) (N := some 54) (v := ?_) (a' := ?_) #[false, true, false, true, false, false, true, true, true, false, false, false, false, false, false, false, false, false, false] rfl rfl (by kernel_rfl) (fun _ _ _ h => h) (Or.inl ⟨by rfl, ?_⟩) ?_ ?_
                rotate_left
                · intro w'
                  go_simp
                  with_reducible rfl
                rotate_left
                · simp only [Act.put, List.setIfInBounds_toArray, List.set_cons_zero, List.set_cons_succ, i64_w, i32_w]
                  rfl
                refine pure_ (i := 12) (N := some 58) (v := ?_) (a' := ?_) #[false, true, false, true, false, false, true, true, true, false, false, false, true, false, false, false, false, false, false] rfl rfl (by kernel_rfl) (fun _ _ _ h => h) (Or.inl ⟨by rfl, ?_⟩) ?_ ?_
                rotate_left
                · intro w'
                  go_simp
                  with_reducible rfl
                rotate_left
                · simp only [Act.put, List.setIfInBounds_toArray, List.set_cons_zero, List.set_cons_succ, i64_w, i32_w]
                  rfl
                refine pure_ (i := 14) (N := some 60) (v := ?_) (a' := ?_) #[false, true, false, true, false, false, true, true, true, false, false, false, true, false, true, false, false, false, false] rfl rfl (by kernel_rfl) (fun _ _ _ h => h) (Or.inl ⟨by rfl, ?_⟩) ?_ ?_
                rotate_left
                · intro w'
                  go_simp
                  with_reducible rfl
                rotate_left
                · simp only [Act.put, List.setIfInBounds_toArray, List.set_cons_zero, List.set_cons_succ, i64_w, i32_w]
                  rfl
                refine take_ (i := 2) (N := some 48) (v := ?_) (a' := ?_) #[false, true, true, true, false, false, true, true, true, false, false, false, true, false, true, false, false, false, false] rfl rfl (by kernel_rfl) (fun _ _ _ h => h) (Or.inl ⟨by rfl, ?_⟩) hHeld ?_ ?_
                rotate_left
                · rintro w' ⟨s0, s1⟩
                  go_simp
                  with_reducible rfl
                rotate_left
                · simp only [Act.put, List.setIfInBounds_toArray, List.set_cons_zero, List.set_cons_succ, i64_w, i32_w]
                  rfl
                refine pure_ (i := 4) (N := some 50) (v := ?_) (a' := ?_) #[false, true, true, true, true, false, true, true, true, false, false, false, true, false, true, false, false, false, false] rfl rfl (by kernel_rfl) (fun _ _ _ h => h) (Or.inl ⟨by rfl, ?_⟩) ?_ ?_
                rotate_left
                · intro w'
                  go_simp
                  with_reducible rfl
                rotate_left
                · simp only [Act.put, List.setIfInBounds_toArray, List.set_cons_zero, List.set_cons_succ, i64_w, i32_w]
                  rfl
                refine take_ (i := 9) (N := some 55) (v := ?_) (a' := ?_) #[false, true, true, true, true, false, true, true, true, true, false, false, true, false, true, false, false, false, false] rfl rfl (by kernel_rfl) (fun _ _ _ h => h) (Or.inl ⟨by rfl, ?_⟩) hHeld ?_ ?_
                rotate_left
                · rintro w' ⟨s0, s1⟩
                  go_simp
                  with_reducible rfl
                rotate_left
                · simp only [Act.put, List.setIfInBounds_toArray, List.set_cons_zero, List.set_cons_succ, i64_w, i32_w]
                  rfl
                refine take_ (i := 13) (N := some 59) (v := ?_) (a' := ?_) #[false, true, true, true, true, false, true, true, true, true, false, false, true, true, true, false, false, false, false] rfl rfl (by kernel_rfl) (fun _ _ _ h => h) (Or.inl ⟨by rfl, ?_⟩) hHeld ?_ ?_
                rotate_left
                · rintro w' ⟨s0, s1⟩
                  go_simp
                  with_reducible rfl
                rotate_left
                · simp only [Act.put, List.setIfInBounds_toArray, List.set_cons_zero, List.set_cons_succ, i64_w, i32_w]
                  rfl
                refine pure_ (i := 15) (N := some 61) (v := ?_) (a' := ?_) #[false, true, true, true, true, false, true, true, true, true, false, false, true, true, true, true, false, false, false] rfl rfl (by kernel_rfl) (fun _ _ _ h => h) (Or.inl ⟨by rfl, ?_⟩) ?_ ?_
                rotate_left
                · intro w'
                  go_simp
                  with_reducible rfl
                rotate_left
                · simp only [Act.put, List.setIfInBounds_toArray, List.set_cons_zero, List.set_cons_succ, i64_w, i32_w]
                  rfl
                refine join_ (σ := Value × Value × Value) 4 #[true, true, true, true, true, true, true, true, true, true, true, false, true, true, true, true, false, false, false] (fun s => [(46, s.1), (51, s.2.1), (56, s.2.2)]) (fun s w' => Kd.R (Kd.int .i64) 3 w' wr.heap.size (fun _ => True) s.2.1 (acc.take (kOf acc x)) ∧ Kd.R (Kd.int .i64) 3 w' wr.heap.size (fun _ => True) s.2.2 [x] ∧ Below wr.heap.size wr w') ?_ ?_
                rotate_left
                · intro hCont
                  refine two_ (i := 0) (j := 10) (Ni := some 46) (Nj := some 56) #[true, true, true, true, true, false, true, true, true, true, false, false, true, true, true, true, false, false, false] #[false, true, true, true, true, false, true, true, true, true, true, false, true, true, true, true, false, false, false] rfl rfl rfl rfl (by kernel_rfl) (by decide) (by decide) (fun K hK => ?_) (fun K hK => ?_)
                  · skip
                    refine Kd.R_lit_step (Kd.int .i64) _ 3 ?hg (N := 46) ?hd (xs := ([] : List Int)) (inner := []) (ok := fun _ => True) (okp := fun _ => True) ?hr ?hp (fun _ hk => hk) trivial (Below.refl _ _) (Nat.le_refl _) (by simp) ?_
                    (case hd => rfl)
                    (case hg => rfl)
                    (case hr => first | (go_simp; done) | (go_simp; rfl))
                    (case hp => exact Reps.none _ _)
                    intro v46 w46 ho hb hg_ hnew_
                    clear hg_ hnew_
                    have m0_ := Aside0.mk (Kd.R_lower ho HBn.out.size)
                    have m1_ := Aside0.mk (below_step HBn.out hb)
                    try clear R0
                    try clear HBn
                    have R0 := m0_
                    have HBn := m1_
                    clear m0_ m1_
                    clear ho hb
                    refine hK.out _ _ ⟨(HBn.out.cell L4.out).trans hc4, (HBn.out.cell LA.out).trans hx⟩ (fun hHeld => ?_)
                    clear hK K
                    refine norm_ (a' := ?_) ?_ ?_
                    rotate_left
                    · show Act.put _ (some 46) _ = _
                      simp only [Act.put, List.setIfInBounds_toArray, List.set_cons_zero, List.set_cons_succ, i64_w, i32_w]
                      rfl
                    refine two_ (i := 5) (j := 10) (Ni := some 51) (Nj := some 56) #[true, true, true, true, true, true, true, true, true, true, false, false, true, true, true, true, false, false, false] #[true, true, true, true, true, false, true, true, true, true, true, false, true, true, true, true, false, false, false] rfl rfl rfl rfl (by kernel_rfl) (by decide) (by decide) (fun K hK => ?_) (fun K hK => ?_)
                    · skip
                      refine Kd.R_append_rows_step (Kd.int .i64) (w0 := wr) wr.heap.size (by rfl) (.tmp 46) (.tmp 50) 22 3 (.int .i64 0) 8 rfl Tryd.underlying22 info3 rfl (by decide) (by omega) v46 ([] : List Int) (acc.take (kOf acc x)) _ _ _ (fun _ => True) (fun _ => False) rfl rfl ?aO ?aR (fun _ _ h => h) (fun _ h => h.elim) ?aF ?aB ?aS ?aL ?_
                      (case aR => exact HCu.out _ HBn.out)
                      (case aB => exact HBn.out)
                      (case aF => exact (fun _ _ => trivial))
                      (case aO => exact R0.out)
                      (case aS => exact HBn.out.size)
                      (case aL => have := HLen.out; simp only [List.length_append, List.length_cons, List.length_nil, List.length_take, List.length_drop]; omega)
                      intro v51 w51 ho hb hg hat
                      rw [List.nil_append] at ho
                      have m0_ := Aside0.mk (ho)
                      have m1_ := Aside0.mk (hb)
                      try clear R1
                      try clear HBn
                      have R1 := m0_
                      have HBn := m1_
                      clear m0_ m1_
                      clear ho hb hg hat
                      refine hK.out _ _ ⟨(HBn.out.cell L4.out).trans hc4, (HBn.out.cell LA.out).trans hx⟩ (fun hHeld => ?_)
                      clear hK K
                      refine norm_ (a' := ?_) ?_ ?_
                      rotate_left
                      · show Act.put _ (some 51) _ = _
                        simp only [Act.put, List.setIfInBounds_toArray, List.set_cons_zero, List.set_cons_succ, i64_w, i32_w]
                        rfl
                      refine one_ (i := 10) (N := some 56) #[true, true, true, true, true, true, true, true, true, true, true, false, true, true, true, true, false, false, false] rfl rfl (by kernel_rfl) (by decide) (fun K hK => ?_)
                      refine Kd.R_lit_step (Kd.int .i64) _ 3 ?hg (N := 56) ?hd (xs := [x]) (inner := [.int .i64 x]) (ok := fun _ => True) (okp := fun _ => True) ?hr ?hp (fun _ hk => hk) trivial (Below.refl _ _) (Nat.le_refl _) (by simp) ?_
                      (case hd => rfl)
                      (case hg => rfl)
                      (case hr => first | (go_simp; done) | (go_simp; rfl))
                      (case hp => exact Reps.one rfl (Reps.none _ _))
                      intro v56 w56 ho hb hg_ hnew_
                      clear hg_ hnew_
                      have m0_ := Aside0.mk (Kd.R_lower ho HBn.out.size)
                      have m1_ := Aside0.mk (Kd.R_below R1.out hb)
                      have m2_ := Aside0.mk (below_step HBn.out hb)
                      try clear R2
                      try clear R1
                      try clear HBn
                      have R2 := m0_
                      have R1 := m1_
                      have HBn := m2_
                      clear m0_ m1_ m2_
                      clear ho hb
                      refine hK.out _ _ ⟨(HBn.out.cell L4.out).trans hc4, (HBn.out.cell LA.out).trans hx⟩ (fun hHeld => ?_)
                      clear hK K
                      refine norm_ (a' := ?_) ?_ ?_
                      rotate_left
                      · show Act.put _ (some 56) _ = _
                        simp only [Act.put, List.setIfInBounds_toArray, List.set_cons_zero, List.set_cons_succ, i64_w, i32_w]
                        rfl
                      exact norm_ (by simp only [putAll, Act.put, List.setIfInBounds_toArray, List.set_cons_zero, List.set_cons_succ]) (hCont (v46, v51, v56) _ ⟨R1.out, Kd.R_mono R2.out (fun _ _ => trivial), HBn.out⟩)
                    · skip
                      refine Kd.R_lit_step (Kd.int .i64) _ 3 ?hg (N := 56) ?hd (xs := [x]) (inner := [.int .i64 x]) (ok := fun _ => True) (okp := fun _ => True) ?hr ?hp (fun _ hk => hk) trivial (Below.refl _ _) (Nat.le_refl _) (by simp) ?_
                      (case hd => rfl)
                      (case hg => rfl)
                      (case hr => first | (go_simp; done) | (go_simp; rfl))
                      (case hp => exact Reps.one rfl (Reps.none _ _))
                      intro v56 w56 ho hb hg_ hnew_
                      clear hg_ hnew_
                      have m0_ := Aside0.mk (Kd.R_lower (Kd.R_new' ho (Kd.R_lt R0.out)) HBn.out.size)
                      have m1_ := Aside0.mk (Kd.R_below R0.out hb)
                      have m2_ := Aside0.mk (below_step HBn.out hb)
                      try clear R2
                      try clear R0
                      try clear HBn
                      have R2 := m0_
                      have R0 := m1_
                      have HBn := m2_
                      clear m0_ m1_ m2_
                      clear ho hb
                      refine hK.out _ _ ⟨(HBn.out.cell L4.out).trans hc4, (HBn.out.cell LA.out).trans hx⟩ (fun hHeld => ?_)
                      clear hK K
                      refine norm_ (a' := ?_) ?_ ?_
                      rotate_left
                      · show Act.put _ (some 56) _ = _
                        simp only [Act.put, List.setIfInBounds_toArray, List.set_cons_zero, List.set_cons_succ, i64_w, i32_w]
                        rfl
                      refine one_ (i := 5) (N := some 51) #[true, true, true, true, true, true, true, true, true, true, true, false, true, true, true, true, false, false, false] rfl rfl (by kernel_rfl) (by decide) (fun K hK => ?_)
                      refine Kd.R_append_rows_step (Kd.int .i64) (w0 := wr) wr.heap.size (by rfl) (.tmp 46) (.tmp 50) 22 3 (.int .i64 0) 8 rfl Tryd.underlying22 info3 rfl (by decide) (by omega) v46 ([] : List Int) (acc.take (kOf acc x)) _ _ _ (fun _ => True) (fun _ => False) rfl rfl ?aO ?aR (fun _ _ h => h) (fun _ h => h.elim) ?aF ?aB ?aS ?aL ?_
                      (case aR => exact HCu.out _ HBn.out)
                      (case aB => exact HBn.out)
                      (case aF => exact (fun _ _ => trivial))
                      (case aO => exact R0.out)
                      (case aS => exact HBn.out.size)
                      (case aL => have := HLen.out; simp only [List.length_append, List.length_cons, List.length_nil, List.length_take, List.length_drop]; omega)
                      intro v51 w51 ho hb hg hat
                      rw [List.nil_append] at ho
                      have m0_ := Aside0.mk (ho)
                      have m1_ := Aside0.mk (Kd.R_grown R2.out hg (fun _ hk => hk.2))
                      have m2_ := Aside0.mk (hb)
                      try clear R1
                      try clear R2
                      try clear HBn
                      have R1 := m0_
                      have R2 := m1_
                      have HBn := m2_
                      clear m0_ m1_ m2_
                      clear ho hb hg hat
                      refine hK.out _ _ ⟨(HBn.out.cell L4.out).trans hc4, (HBn.out.cell LA.out).trans hx⟩ (fun hHeld => ?_)
                      clear hK K
                      refine norm_ (a' := ?_) ?_ ?_
                      rotate_left
                      · show Act.put _ (some 51) _ = _
                        simp only [Act.put, List.setIfInBounds_toArray, List.set_cons_zero, List.set_cons_succ, i64_w, i32_w]
                        rfl
                      exact norm_ (by simp only [putAll, Act.put, List.setIfInBounds_toArray, List.set_cons_zero, List.set_cons_succ]) (hCont (v46, v51, v56) _ ⟨R1.out, Kd.R_mono R2.out (fun _ _ => trivial), HBn.out⟩)
                  · skip
                    refine Kd.R_lit_step (Kd.int .i64) _ 3 ?hg (N := 56) ?hd (xs := [x]) (inner := [.int .i64 x]) (ok := fun _ => True) (okp := fun _ => True) ?hr ?hp (fun _ hk => hk) trivial (Below.refl _ _) (Nat.le_refl _) (by simp) ?_
                    (case hd => rfl)
                    (case hg => rfl)
                    (case hr => first | (go_simp; done) | (go_simp; rfl))
                    (case hp => exact Reps.one rfl (Reps.none _ _))
                    intro v56 w56 ho hb hg_ hnew_
                    clear hg_ hnew_
                    have m0_ := Aside0.mk (Kd.R_lower ho HBn.out.size)
                    have m1_ := Aside0.mk (below_step HBn.out hb)
                    try clear R2
                    try clear HBn
                    have R2 := m0_
                    have HBn := m1_
                    clear m0_ m1_
                    clear ho hb
                    refine hK.out _ _ ⟨(HBn.out.cell L4.out).trans hc4, (HBn.out.cell LA.out).trans hx⟩ (fun hHeld => ?_)
                    clear hK K
                    refine norm_ (a' := ?_) ?_ ?_
                    rotate_left
                    · show Act.put _ (some 56) _ = _
                      simp only [Act.put, List.setIfInBounds_toArray, List.set_cons_zero, List.set_cons_succ, i64_w, i32_w]
                      rfl
                    refine one_ (i := 0) (N := some 46) #[true, true, true, true, true, false, true, true, true, true, true, false, true, true, true, true, false, false, false] rfl rfl (by kernel_rfl) (by decide) (fun K hK => ?_)
                    refine Kd.R_lit_step (Kd.int .i64) _ 3 ?hg (N := 46) ?hd (xs := ([] : List Int)) (inner := []) (ok := fun _ => True) (okp := fun _ => True) ?hr ?hp (fun _ hk => hk) trivial (Below.refl _ _) (Nat.le_refl _) (by simp) ?_
                    (case hd => rfl)
                    (case hg => rfl)
                    (case hr => first | (go_simp; done) | (go_simp; rfl))
                    (case hp => exact Reps.none _ _)
                    intro v46 w46 ho hb hg_ hnew_
                    clear hg_ hnew_
                    have m0_ := Aside0.mk (Kd.R_elder' R2.out (Kd.R_base ho) hb)
                    have m1_ := Aside0.mk (Kd.R_lower ho HBn.out.size)
                    have m2_ := Aside0.mk (below_step HBn.out hb)
                    try clear R2
                    try clear R0
                    try clear HBn
                    have R2 := m0_
                    have R0 := m1_
                    have HBn := m2_
                    clear m0_ m1_ m2_
                    clear ho hb
                    refine hK.out _ _ ⟨(HBn.out.cell L4.out).trans hc4, (HBn.out.cell LA.out).trans hx⟩ (fun hHeld => ?_)
                    clear hK K
                    refine norm_ (a' := ?_) ?_ ?_
                    rotate_left
                    · show Act.put _ (some 46) _ = _
                      simp only [Act.put, List.setIfInBounds_toArray, List.set_cons_zero, List.set_cons_succ, i64_w, i32_w]
                      rfl
                    refine one_ (i := 5) (N := some 51) #[true, true, true, true, true, true, true, true, true, true, true, false, true, true, true, true, false, false, false] rfl rfl (by kernel_rfl) (by decide) (fun K hK => ?_)
                    refine Kd.R_append_rows_step (Kd.int .i64) (w0 := wr) wr.heap.size (by rfl) (.tmp 46) (.tmp 50) 22 3 (.int .i64 0) 8 rfl Tryd.underlying22 info3 rfl (by decide) (by omega) v46 ([] : List Int) (acc.take (kOf acc x)) _ _ _ (fun _ => True) (fun _ => False) rfl rfl ?aO ?aR (fun _ _ h => h) (fun _ h => h.elim) ?aF ?aB ?aS ?aL ?_
                    (case aR => exact HCu.out _ HBn.out)
                    (case aB => exact HBn.out)
                    (case aF => exact (fun _ _ => trivial))
                    (case aO => exact R0.out)
                    (case aS => exact HBn.out.size)
                    (case aL => have := HLen.out; simp only [List.length_append, List.length_cons, List.length_nil, List.length_take, List.length_drop]; omega)
                    intro v51 w51 ho hb hg hat
                    rw [List.nil_append] at ho
                    have m0_ := Aside0.mk (ho)
                    have m1_ := Aside0.mk (Kd.R_grown R2.out hg (fun _ hk => hk.2))
                    have m2_ := Aside0.mk (hb)
                    try clear R1
                    try clear R2
                    try clear HBn
                    have R1 := m0_
                    have R2 := m1_
                    have HBn := m2_
                    clear m0_ m1_ m2_
                    clear ho hb hg hat
                    refine hK.out _ _ ⟨(HBn.out.cell L4.out).trans hc4, (HBn.out.cell LA.out).trans hx⟩ (fun hHeld => ?_)
                    clear hK K
                    refine norm_ (a' := ?_) ?_ ?_
                    rotate_left
                    · show Act.put _ (some 51) _ = _
                      simp only [Act.put, List.setIfInBounds_toArray, List.set_cons_zero, List.set_cons_succ, i64_w, i32_w]
                      rfl
                    exact norm_ (by simp only [putAll, Act.put, List.setIfInBounds_toArray, List.set_cons_zero, List.set_cons_succ]) (hCont (v46, v51, v56) _ ⟨R1.out, Kd.R_mono R2.out (fun _ _ => trivial), HBn.out⟩)
                rintro ⟨v46, v51, v56⟩ w56 ⟨r1, r2, hbn⟩
                clear HBn
                have R1 := Aside0.mk r1
                have R2 := Aside0.mk r2
                have HBn := Aside0.mk hbn
                clear r1 r2 hbn
                obtain ⟨A56, c56, e56⟩ := Kd.R_slice R2.out
                have hHeld : w56.cell? ⟨g4, 1, none⟩ = some (.slice (some ad2) acc.length cu) ∧ w56.cell? (ad.add i.toNat) = some (.int .i64 x) := ⟨(HBn.out.cell L4.out).trans hc4, (HBn.out.cell LA.out).trans hx⟩
                dsimp only at e56
                subst e56
                refine norm_ (a' := ?_) ?_ ?_
                rotate_left
                · simp only [putAll, Act.put, List.setIfInBounds_toArray, List.set_cons_zero, List.set_cons_succ]
                  rfl
                refine one_ (i := 11) (N := some 57) #[true, true, true, true, true, true, true, true, true, true, true, true, true, true, true, true, false, false, false] rfl rfl (by kernel_rfl) (by decide) (fun K hK => ?_)
                refine Kd.R_append_rows_step (Kd.int .i64) (w0 := wr) wr.heap.size (by rfl) (.tmp 51) (.tmp 56) 22 3 (.int .i64 0) 8 rfl Tryd.underlying22 info3 rfl (by decide) (by omega) v51 (acc.take (kOf acc x)) [x] _ _ _ (fun _ => True) (fun _ => False) rfl rfl ?aO ?aR (fun _ _ h => h) (fun _ h => h.elim) ?aF ?aB ?aS ?aL ?_
                (case aR => exact (R_C R2.out).2)
                (case aB => exact HBn.out)
                (case aF => exact (fun _ _ => trivial))
                (case aO => exact R1.out)
                (case aS => exact HBn.out.size)
                (case aL => have := HLen.out; simp only [List.length_append, List.length_cons, List.length_nil, List.length_take, List.length_drop]; omega)
                intro v57 w57 ho hb hg hat
                have m0_ := Aside0.mk (ho)
                have m1_ := Aside0.mk (hb)
                try clear R1
                try clear HBn
                have R1 := m0_
                have HBn := m1_
                clear m0_ m1_
                clear ho hb hg hat R2
                refine hK.out _ _ ⟨(HBn.out.cell L4.out).trans hc4, (HBn.out.cell LA.out).trans hx⟩ (fun hHeld => ?_)
                clear hK K
                refine norm_ (a' := ?_) ?_ ?_
                rotate_left
                · show Act.put _ (some 57) _ = _
                  simp only [Act.put, List.setIfInBounds_toArray, List.set_cons_zero, List.set_cons_succ, i64_w, i32_w]
                  rfl
                refine one_ (i := 16) (N := some 62) #[true, true, true, true, true, true, true, true, true, true, true, true, true, true, true, true, true, false, false] rfl rfl (by kernel_rfl) (by decide) (fun K hK => ?_)
                refine Kd.R_append_rows_step (Kd.int .i64) (w0 := wr) wr.heap.size (by rfl) (.tmp 57) (.tmp 61) 22 3 (.int .i64 0) 8 rfl Tryd.underlying22 info3 rfl (by decide) (by omega) v57 (acc.take (kOf acc x) ++ [x]) (acc.drop (kOf acc x)) _ _ _ (fun _ => True) (fun _ => False) rfl rfl ?aO ?aR (fun _ _ h => h) (fun _ h => h.elim) ?aF ?aB ?aS ?aL ?_
                (case aR => exact HCd.out _ HBn.out)
                (case aB => exact HBn.out)
                (case aF => exact (fun _ _ => trivial))
                (case aO => exact R1.out)
                (case aS => exact HBn.out.size)
                (case aL => have := HLen.out; simp only [List.length_append, List.length_cons, List.length_nil, List.length_take, List.length_drop]; omega)
                intro v62 w62 ho hb hg hat
                have m0_ := Aside0.mk ((show Kd.R (Kd.int .i64) 3 _ _ _ _ (rIns acc x) from ho))
                have m1_ := Aside0.mk (hb)
                try clear R1
                try clear HBn
                have R1 := m0_
                have HBn := m1_
                clear m0_ m1_
                clear ho hb hg hat
                obtain ⟨A62, c62, e62⟩ := Kd.R_slice R1.out
                subst e62
                refine hK.out _ _ ⟨(HBn.out.cell L4.out).trans hc4, (HBn.out.cell LA.out).trans hx⟩ (fun hHeld => ?_)
                clear hK K
                refine norm_ (a' := ?_) ?_ ?_
                rotate_left
                · show Act.put _ (some 62) _ = _
                  simp only [Act.put, List.setIfInBounds_toArray, List.set_cons_zero, List.set_cons_succ, i64_w, i32_w]
                  rfl
                refine pure_ (i := 17) (N := some 63) (v := ?_) (a' := ?_) #[true, true, true, true, true, true, true, true, true, true, true, true, true, true, true, true, true, true, false] rfl rfl (by kernel_rfl) (fun _ _ _ h => h) (Or.inl ⟨by rfl, ?_⟩) ?_ ?_
                rotate_left
                · intro w'
                  go_simp
                  with_reducible rfl
                rotate_left
                · simp only [Act.put, List.setIfInBounds_toArray, List.set_cons_zero, List.set_cons_succ, i64_w, i32_w]
                  rfl
                refine last_ (i := 18) (N := none) #[true, true, true, true, true, true, true, true, true, true, true, true, true, true, true, true, true, true, true] rfl rfl (by kernel_rfl) (by decide) (fun K hK => ?_)
                have hst : w62.cell? ⟨g4, 1, none⟩ = some (.slice (some ad2) acc.length cu) := (HBn.out.cell L4.out).trans hc4
                have hsf := blk_frozen (blk_below (blk_below BK4r.out HBq.out) HBn.out) 1
                refine skip_ (w1 := ?_) (by rfl) rfl ?_ ?_
                rotate_left
                · go_simp
                  rfl
                refine hK.out _ _ ?_
                clear hK K
                refine done_ (by kernel_rfl) ?_
                have hk1 := kOf_le acc x
                have BK4n := Aside0.mk (blk_below (blk_below BK4r.out HBq.out) HBn.out)
                have BK2n := Aside0.mk (blk_below (blk_below BK2r.out HBq.out) HBn.out)
                have HBw := Aside0.mk (show Below w.heap.size w w62 from below_step (below_step HB.out HBq.out) HBn.out)
                have BK4z := Aside0.mk (blk_put (cs := #[.bool false, .slice (some ad2) acc.length cu]) BK4n.out 1 (.slice A62 (rIns acc x).length c62) rfl)
                have BK2z := Aside0.mk (blk_far (p := ⟨g4, 1, none⟩) BK2n.out n24 (.slice A62 (rIns acc x).length c62))
                have HBz := Aside0.mk (show Below w.heap.size w (w62.setCell ⟨g4, 1, none⟩ (.slice A62 (rIns acc x).length c62)) from below_set HBw.out GE4.out)
                have HOz := Aside0.mk (Kd.R_mono (ok' := fun _ => True) (Kd.R_far (p := ⟨g4, 1, none⟩) (Kd.R_types (Kd.R_lower R1.out (below_step HB.out HBq.out).size) BK4n.out (by decide)) (fun _ hk => hk.2) (.slice A62 (rIns acc x).length c62)) (fun _ _ => trivial))
                clear hc4 hx
                try clear hHeld
                have hcza0 := (blk_cell BK4z.out 0).trans rfl
                have hcza1 := (blk_cell BK4z.out 1).trans rfl
                have hczb0 := (blk_cell BK2z.out 0).trans rfl
                have hczb1 := (blk_cell BK2z.out 1).trans rfl
                have hfzb0 := blk_frozen BK2z.out 0
                have hfzb1 := blk_frozen BK2z.out 1
                by_cases h33 : 32 < (rIns acc x).length
                · have c33 : decide (32 < ((rIns acc x).length : Int)) = true := decide_eq_true (by omega)
                  rw [if_pos h33] at HF
                  obtain ⟨rfl, rfl, rfl⟩ : r1 = false ∧ r2 = [] ∧ r3 = 22 := by
                    have := HF.out
                    simp only [Option.some.injEq, Prod.mk.injEq] at this
                    exact ⟨this.1.symm, this.2.1.symm, this.2.2.symm⟩
                  go_wp2_with fail
                  all_goals refine bodyPost_ret (results_ct rfl _ _ g2 24 #[.bool false, .slice none 0 0] (0, 0) _ rfl (blk_put (cs := #[.bool false, .slice none 0 0]) (blk_put (cs := #[.bool false, .slice none 0 0]) BK2z.out 0 (.bool false) rfl) 1 (.slice none 0 0) rfl) Tryd.underlying24 rfl (by kernel_rfl)) rfl ?_
                  all_goals exact ⟨_, rfl, Kd.R_nil _ _ _ _ _, below_set (below_set HBz.out GE2.out) GE2.out⟩
                · have c33 : decide (32 < ((rIns acc x).length : Int)) = false := decide_eq_false (by omega)
                  rw [if_neg h33] at HF
                  have H32 := Aside0.mk h33
                  clear h33
                  go_wp2_with fail
                  all_goals go_roundg (ko - 1)
                  all_goals first | (have := HX.out; omega) | exact ⟨i + 1, rIns acc x, _, by go_num, ⟨by have := HX.out; have := H32.out; omega⟩, HF, HOz, BK2z, BK4z, HBz⟩
            · have cj : decide ((j : Int) < (acc.length : Int)) = false := decide_eq_false (by omega)
              obtain rfl : j = kOf acc x := by have := HJ.out; omega
              rw [show rmake acc (x :: l0.drop (i + 1).toNat) = if 32 < (rIns acc x).length then none else rmake (rIns acc x) (l0.drop (i + 1).toNat) by rw [rmake, if_neg (by have := HNeg.out; omega), ← HCt.out, if_neg (by simp)]] at HF
              go_wp2_with fail
              go_quiet (fail)
              go_wp2_with fail
              have HBn := Aside0.mk (show Below wr.heap.size wr (wr.drewN nq).drew by repeat (first | exact Below.refl _ _ | apply pw_below_drewN | apply below_drew1))
              have HKL := Aside0.mk (kOf_le acc x)
              have HCa := Aside0.mk (Kd.C_below (R_C HO.out).2 HBq.out)
              have HCC := Aside0.mk (R_C HO.out).1
              have HLen := Aside0.mk (show acc.length ≤ 32 from HX.out.2.2.2)
              have hkc := eq_true (show kOf acc x ≤ cu by have := HCC.out; have := HKL.out; omega)
              have hka := eq_true (show kOf acc x ≤ acc.length from HKL.out)
              have HCu := Aside0.mk (take_C HCa.out HKL.out)
              have HCd := Aside0.mk (drop_C HCa.out HKL.out HCC.out)
              refine start_ (n := 19) (S := fun w' => w'.cell? ⟨g4, 1, none⟩ = some (.slice Au acc.length cu) ∧ w'.cell? (ad.add i.toNat) = some (.int .i64 x)) (ds := [18]) #[false, false, false, false, false, false, false, false, false, false, false, false, false, false, false, false, false, false, false] (by kernel_rfl) rfl rfl ⟨(HBn.out.cell L4.out).trans hc4, (HBn.out.cell LA.out).trans hx⟩ (fun hHeld => ?_)
              refine pure_ (i := 1) (N := some 47) (v := ?_) (a' := ?_) #[false, true, false, false, false, false, false, false, false, false, false, false, false, false, false, false, false, false, false] rfl rfl (by kernel_rfl) (fun _ _ _ h => h) (Or.inl ⟨by rfl, ?_⟩) ?_ ?_
              rotate_left
              · intro w'
                go_simp
                with_reducible rfl
              rotate_left
              · simp only [Act.put, List.setIfInBounds_toArray, List.set_cons_zero, List.set_cons_succ, i64_w, i32_w]
                rfl
              refine pure_ (i := 3) (N := some 49) (v := ?_) (a' := ?_) #[false, true, false, true, false, false, false, false, false, false, false, false, false, false, false, false, false, false, false] rfl rfl (by kernel_rfl) (fun _ _ _ h => h) (Or.inl ⟨by rfl, ?_⟩) ?_ ?_
              rotate_left
              · intro w'
                go_simp
                with_reducible rfl
              rotate_left
              · simp only [Act.put, List.setIfInBounds_toArray, List.set_cons_zero, List.set_cons_succ, i64_w, i32_w]
                rfl
              refine pure_ (i := 6) (N := some 52) (v := ?_) (a' := ?_) #[false, true, false, true, false, false, true, false, false, false, false, false, false, false, false, false, false, false, false] rfl rfl (by kernel_rfl) (fun _ _ _ h => h) (Or.inl ⟨by rfl, ?_⟩) ?_ ?_
              rotate_left
              · intro w'
                go_simp
                with_reducible rfl
              rotate_left
              · simp only [Act.put, List.setIfInBounds_toArray, List.set_cons_zero, List.set_cons_succ, i64_w, i32_w]
                rfl
              refine pure_ (i := 7) (N := some 53) (v := ?_) (a' := ?_) #[false, true, false, true, false, false, true, true, false, false, false, false, false, false, false, false, false, false, false] rfl rfl (by kernel_rfl) (fun _ _ _ h => h) (Or.inl ⟨by rfl, ?_⟩) ?_ ?_
              rotate_left
              · intro w'
                go_simp
                with_reducible rfl
              rotate_left
              · simp only [Act.put, List.setIfInBounds_toArray, List.set_cons_zero, List.set_cons_succ, i64_w, i32_w]
                rfl
              refine pure_ (i := 8) (N := some 54) (v := ?_) (a' := ?_) #[false, true, false, true, false, false, true, true, true, false, false, false, false, false, false, false, false, false, false] rfl rfl (by kernel_rfl) (fun _ _ _ h => h) (Or.inl ⟨by rfl, ?_⟩) ?_ ?_
              rotate_left
              · intro w'
                go_simp
                with_reducible rfl
              rotate_left
              · simp only [Act.put, List.setIfInBounds_toArray, List.set_cons_zero, List.set_cons_succ, i64_w, i32_w]
                rfl
              refine pure_ (i := 12) (N := some 58) (v := ?_) (a' := ?_) #[false, true, false, true, false, false, true, true, true, false, false, false, true, false, false, false, false, false, false] rfl rfl (by kernel_rfl) (fun _ _ _ h => h) (Or.inl ⟨by rfl, ?_⟩) ?_ ?_
              rotate_left
              · intro w'
                go_simp
                with_reducible rfl
              rotate_left
              · simp only [Act.put, List.setIfInBounds_toArray, List.set_cons_zero, List.set_cons_succ, i64_w, i32_w]
                rfl
              refine pure_ (i := 14) (N := some 60) (v := ?_) (a' := ?_) #[false, true, false, true, false, false, true, true, true, false, false, false, true, false, true, false, false, false, false] rfl rfl (by kernel_rfl) (fun _ _ _ h => h) (Or.inl ⟨by rfl, ?_⟩) ?_ ?_
              rotate_left
              · intro w'
                go_simp
                with_reducible rfl
              rotate_left
              · simp only [Act.put, List.setIfInBounds_toArray, List.set_cons_zero, List.set_cons_succ, i64_w, i32_w]
                rfl
              refine take_ (i := 2) (N := some 48) (v := ?_) (a' := ?_) #[false, true, true, true, false, false, true, true, true, false, false, false, true, false, true, false, false, false, false] rfl rfl (by kernel_rfl) (fun _ _ _ h => h) (Or.inl ⟨by rfl, ?_⟩) hHeld ?_ ?_
              rotate_left
              · rintro w' ⟨s0, s1⟩
                go_simp
                with_reducible rfl
              rotate_left
              · simp only [Act.put, List.setIfInBounds_toArray, List.set_cons_zero, List.set_cons_succ, i64_w, i32_w]
                rfl
              refine pure_ (i := 4) (N := some 50) (v := ?_) (a' := ?_) #[false, true, true, true, true, false, true, true, true, false, false, false, true, false, true, false, false, false, false] rfl rfl (by kernel_rfl) (fun _ _ _ h => h) (Or.inl ⟨by rfl, ?_⟩) ?_ ?_
              rotate_left
              · intro w'
                go_simp
                with_reducible rfl
              rotate_left
              · simp only [Act.put, List.setIfInBounds_toArray, List.set_cons_zero, List.set_cons_succ, i64_w, i32_w]
                rfl
              refine take_ (i := 9) (N := some 55) (v := ?_) (a' := ?_) #[false, true, true, true, true, false, true, true, true, true, false, false, true, false, true, false, false, false, false] rfl rfl (by kernel_rfl) (fun _ _ _ h => h) (Or.inl ⟨by rfl, ?_⟩) hHeld ?_ ?_
              rotate_left
              · rintro w' ⟨s0, s1⟩
                go_simp
                with_reducible rfl
              rotate_left
              · simp only [Act.put, List.setIfInBounds_toArray, List.set_cons_zero, List.set_cons_succ, i64_w, i32_w]
                rfl
              refine take_ (i := 13) (N := some 59) (v := ?_) (a' := ?_) #[false, true, true, true, true, false, true, true, true, true, false, false, true, true, true, false, false, false, false] rfl rfl (by kernel_rfl) (fun _ _ _ h => h) (Or.inl ⟨by rfl, ?_⟩) hHeld ?_ ?_
              rotate_left
              · rintro w' ⟨s0, s1⟩
                go_simp
                with_reducible rfl
              rotate_left
              · simp only [Act.put, List.setIfInBounds_toArray, List.set_cons_zero, List.set_cons_succ, i64_w, i32_w]
                rfl
              refine pure_ (i := 15) (N := some 61) (v := ?_) (a' := ?_) #[false, true, true, true, true, false, true, true, true, true, false, false, true, true, true, true, false, false, false] rfl rfl (by kernel_rfl) (fun _ _ _ h => h) (Or.inl ⟨by rfl, ?_⟩) ?_ ?_
              rotate_left
              · intro w'
                go_simp
                with_reducible rfl
              rotate_left
              · simp only [Act.put, List.setIfInBounds_toArray, List.set_cons_zero, List.set_cons_succ, i64_w, i32_w]
                rfl
              refine join_ (σ := Value × Value × Value) 4 #[true, true, true, true, true, true, true, true, true, true, true, false, true, true, true, true, false, false, false] (fun s => [(46, s.1), (51, s.2.1), (56, s.2.2)]) (fun s w' => Kd.R (Kd.int .i64) 3 w' wr.heap.size (fun _ => True) s.2.1 (acc.take (kOf acc x)) ∧ Kd.R (Kd.int .i64) 3 w' wr.heap.size (fun _ => True) s.2.2 [x] ∧ Below wr.heap.size wr w') ?_ ?_
              rotate_left
              · intro hCont
                refine two_ (i := 0) (j := 10) (Ni := some 46) (Nj := some 56) #[true, true, true, true, true, false, true, true, true, true, false, false, true, true, true, true, false, false, false] #[false, true, true, true, true, false, true, true, true, true, true, false, true, true, true, true, false, false, false] rfl rfl rfl rfl (by kernel_rfl) (by decide) (by decide) (fun K hK => ?_) (fun K hK => ?_)
                · skip
                  refine Kd.R_lit_step (Kd.int .i64) _ 3 ?hg (N := 46) ?hd (xs := ([] : List Int)) (inner := []) (ok := fun _ => True) (okp := fun _ => True) ?hr ?hp (fun _ hk => hk) trivial (Below.refl _ _) (Nat.le_refl _) (by simp) ?_
                  (case hd => rfl)
                  (case hg => rfl)
                  (case hr => first | (go_simp; done) | (go_simp; rfl))
                  (case hp => exact Reps.none _ _)
                  intro v46 w46 ho hb hg_ hnew_
                  clear hg_ hnew_
                  have m0_ := Aside0.mk (Kd.R_lower ho HBn.out.size)
                  have m1_ := Aside0.mk (below_step HBn.out hb)
                  try clear R0
                  try clear HBn
                  have R0 := m0_
                  have HBn := m1_
                  clear m0_ m1_
                  clear ho hb
                  refine hK.out _ _ ⟨(HBn.out.cell L4.out).trans hc4, (HBn.out.cell LA.out).trans hx⟩ (fun hHeld => ?_)
                  clear hK K
                  refine norm_ (a' := ?_) ?_ ?_
                  rotate_left
                  · show Act.put _ (some 46) _ = _
                    simp only [Act.put, List.setIfInBounds_toArray, List.set_cons_zero, List.set_cons_succ, i64_w, i32_w]
                    rfl
                  refine two_ (i := 5) (j := 10) (Ni := some 51) (Nj := some 56) #[true, true, true, true, true, true, true, true, true, true, false, false, true, true, true, true, false, false, false] #[true, true, true, true, true, false, true, true, true, true, true, false, true, true, true, true, false, false, false] rfl rfl rfl rfl (by kernel_rfl) (by decide) (by decide) (fun K hK => ?_) (fun K hK => ?_)
                  · skip
                    refine Kd.R_append_rows_step (Kd.int .i64) (w0 := wr) wr.heap.size (by rfl) (.tmp 46) (.tmp 50) 22 3 (.int .i64 0) 8 rfl Tryd.underlying22 info3 rfl (by decide) (by omega) v46 ([] : List Int) (acc.take (kOf acc x)) _ _ _ (fun _ => True) (fun _ => False) rfl rfl ?aO ?aR (fun _ _ h => h) (fun _ h => h.elim) ?aF ?aB ?aS ?aL ?_
                    (case aR => exact HCu.out _ HBn.out)
                    (case aB => exact HBn.out)
                    (case aF => exact (fun _ _ => trivial))
                    (case aO => exact R0.out)
                    (case aS => exact HBn.out.size)
                    (case aL => have := HLen.out; simp only [List.length_append, List.length_cons, List.length_nil, List.length_take, List.length_drop]; omega)
                    intro v51 w51 ho hb hg hat
                    rw [List.nil_append] at ho
                    have m0_ := Aside0.mk (ho)
                    have m1_ := Aside0.mk (hb)
                    try clear R1
                    try clear HBn
                    have R1 := m0_
                    have HBn := m1_
                    clear m0_ m1_
                    clear ho hb hg hat
                    refine hK.out _ _ ⟨(HBn.out.cell L4.out).trans hc4, (HBn.out.cell LA.out).trans hx⟩ (fun hHeld => ?_)
                    clear hK K
                    refine norm_ (a' := ?_) ?_ ?_
                    rotate_left
                    · show Act.put _ (some 51) _ = _
                      simp only [Act.put, List.setIfInBounds_toArray, List.set_cons_zero, List.set_cons_succ, i64_w, i32_w]
                      rfl
                    refine one_ (i := 10) (N := some 56) #[true, true, true, true, true, true, true, true, true, true, true, false, true, true, true, true, false, false, false] rfl rfl (by kernel_rfl) (by decide) (fun K hK => ?_)
                    refine Kd.R_lit_step (Kd.int .i64) _ 3 ?hg (N := 56) ?hd (xs := [x]) (inner := [.int .i64 x]) (ok := fun _ => True) (okp := fun _ => True) ?hr ?hp (fun _ hk => hk) trivial (Below.refl _ _) (Nat.le_refl _) (by simp) ?_
                    (case hd => rfl)
                    (case hg => rfl)
                    (case hr => first | (go_simp; done) | (go_simp; rfl))
                    (case hp => exact Reps.one rfl (Reps.none _ _))
                    intro v56 w56 ho hb hg_ hnew_
                    clear hg_ hnew_
                    have m0_ := Aside0.mk (Kd.R_lower ho HBn.out.size)
                    have m1_ := Aside0.mk (Kd.R_below R1.out hb)
                    have m2_ := Aside0.mk (below_step HBn.out hb)
                    try clear R2
                    try clear R1
                    try clear HBn
                    have R2 := m0_
                    have R1 := m1_
                    have HBn := m2_
                    clear m0_ m1_ m2_
                    clear ho hb
                    refine hK.out _ _ ⟨(HBn.out.cell L4.out).trans hc4, (HBn.out.cell LA.out).trans hx⟩ (fun hHeld => ?_)
                    clear hK K
                    refine norm_ (a' := ?_) ?_ ?_
                    rotate_left
                    · show Act.put _ (some 56) _ = _
                      simp only [Act.put, List.setIfInBounds_toArray, List.set_cons_zero, List.set_cons_succ, i64_w, i32_w]
                      rfl
                    exact norm_ (by simp only [putAll, Act.put, List.setIfInBounds_toArray, List.set_cons_zero, List.set_cons_succ]) (hCont (v46, v51, v56) _ ⟨R1.out, Kd.R_mono R2.out (fun _ _ => trivial), HBn.out⟩)
                  · skip
                    refine Kd.R_lit_step (Kd.int .i64) _ 3 ?hg (N := 56) ?hd (xs := [x]) (inner := [.int .i64 x]) (ok := fun _ => True) (okp := fun _ => True) ?hr ?hp (fun _ hk => hk) trivial (Below.refl _ _) (Nat.le_refl _) (by simp) ?_
                    (case hd => rfl)
                    (case hg => rfl)
                    (case hr => first | (go_simp; done) | (go_simp; rfl))
                    (case hp => exact Reps.one rfl (Reps.none _ _))
                    intro v56 w56 ho hb hg_ hnew_
                    clear hg_ hnew_
                    have m0_ := Aside0.mk (Kd.R_lower (Kd.R_new' ho (Kd.R_lt R0.out)) HBn.out.size)
                    have m1_ := Aside0.mk (Kd.R_below R0.out hb)
                    have m2_ := Aside0.mk (below_step HBn.out hb)
                    try clear R2
                    try clear R0
                    try clear HBn
                    have R2 := m0_
                    have R0 := m1_
                    have HBn := m2_
                    clear m0_ m1_ m2_
                    clear ho hb
                    refine hK.out _ _ ⟨(HBn.out.cell L4.out).trans hc4, (HBn.out.cell LA.out).trans hx⟩ (fun hHeld => ?_)
                    clear hK K
                    refine norm_ (a' := ?_) ?_ ?_
                    rotate_left
                    · show Act.put _ (some 56) _ = _
                      simp only [Act.put, List.setIfInBounds_toArray, List.set_cons_zero, List.set_cons_succ, i64_w, i32_w]
                      rfl
                    refine one_ (i := 5) (N := some 51) #[true, true, true, true, true, true, true, true, true, true, true, false, true, true, true, true, false, false, false] rfl rfl (by kernel_rfl) (by decide) (fun K hK => ?_)
                    refine Kd.R_append_rows_step (Kd.int .i64) (w0 := wr) wr.heap.size (by rfl) (.tmp 46) (.tmp 50) 22 3 (.int .i64 0) 8 rfl Tryd.underlying22 info3 rfl (by decide) (by omega) v46 ([] : List Int) (acc.take (kOf acc x)) _ _ _ (fun _ => True) (fun _ => False) rfl rfl ?aO ?aR (fun _ _ h => h) (fun _ h => h.elim) ?aF ?aB ?aS ?aL ?_
                    (case aR => exact HCu.out _ HBn.out)
                    (case aB => exact HBn.out)
                    (case aF => exact (fun _ _ => trivial))
                    (case aO => exact R0.out)
                    (case aS => exact HBn.out.size)
                    (case aL => have := HLen.out; simp only [List.length_append, List.length_cons, List.length_nil, List.length_take, List.length_drop]; omega)
                    intro v51 w51 ho hb hg hat
                    rw [List.nil_append] at ho
                    have m0_ := Aside0.mk (ho)
                    have m1_ := Aside0.mk (Kd.R_grown R2.out hg (fun _ hk => hk.2))
                    have m2_ := Aside0.mk (hb)
                    try clear R1
                    try clear R2
                    try clear HBn
                    have R1 := m0_
                    have R2 := m1_
                    have HBn := m2_
                    clear m0_ m1_ m2_
                    clear ho hb hg hat
                    refine hK.out _ _ ⟨(HBn.out.cell L4.out).trans hc4, (HBn.out.cell LA.out).trans hx⟩ (fun hHeld => ?_)
                    clear hK K
                    refine norm_ (a' := ?_) ?_ ?_
                    rotate_left
                    · show Act.put _ (some 51) _ = _
                      simp only [Act.put, List.setIfInBounds_toArray, List.set_cons_zero, List.set_cons_succ, i64_w, i32_w]
                      rfl
                    exact norm_ (by simp only [putAll, Act.put, List.setIfInBounds_toArray, List.set_cons_zero, List.set_cons_succ]) (hCont (v46, v51, v56) _ ⟨R1.out, Kd.R_mono R2.out (fun _ _ => trivial), HBn.out⟩)
                · skip
                  refine Kd.R_lit_step (Kd.int .i64) _ 3 ?hg (N := 56) ?hd (xs := [x]) (inner := [.int .i64 x]) (ok := fun _ => True) (okp := fun _ => True) ?hr ?hp (fun _ hk => hk) trivial (Below.refl _ _) (Nat.le_refl _) (by simp) ?_
                  (case hd => rfl)
                  (case hg => rfl)
                  (case hr => first | (go_simp; done) | (go_simp; rfl))
                  (case hp => exact Reps.one rfl (Reps.none _ _))
                  intro v56 w56 ho hb hg_ hnew_
                  clear hg_ hnew_
                  have m0_ := Aside0.mk (Kd.R_lower ho HBn.out.size)
                  have m1_ := Aside0.mk (below_step HBn.out hb)
                  try clear R2
                  try clear HBn
                  have R2 := m0_
                  have HBn := m1_
                  clear m0_ m1_
                  clear ho hb
                  refine hK.out _ _ ⟨(HBn.out.cell L4.out).trans hc4, (HBn.out.cell LA.out).trans hx⟩ (fun hHeld => ?_)
                  clear hK K
                  refine norm_ (a' := ?_) ?_ ?_
                  rotate_left
                  · show Act.put _ (some 56) _ = _
                    simp only [Act.put, List.setIfInBounds_toArray, List.set_cons_zero, List.set_cons_succ, i64_w, i32_w]
                    rfl
                  refine one_ (i := 0) (N := some 46) #[true, true, true, true, true, false, true, true, true, true, true, false, true, true, true, true, false, false, false] rfl rfl (by kernel_rfl) (by decide) (fun K hK => ?_)
                  refine Kd.R_lit_step (Kd.int .i64) _ 3 ?hg (N := 46) ?hd (xs := ([] : List Int)) (inner := []) (ok := fun _ => True) (okp := fun _ => True) ?hr ?hp (fun _ hk => hk) trivial (Below.refl _ _) (Nat.le_refl _) (by simp) ?_
                  (case hd => rfl)
                  (case hg => rfl)
                  (case hr => first | (go_simp; done) | (go_simp; rfl))
                  (case hp => exact Reps.none _ _)
                  intro v46 w46 ho hb hg_ hnew_
                  clear hg_ hnew_
                  have m0_ := Aside0.mk (Kd.R_elder' R2.out (Kd.R_base ho) hb)
                  have m1_ := Aside0.mk (Kd.R_lower ho HBn.out.size)
                  have m2_ := Aside0.mk (below_step HBn.out hb)
                  try clear R2
                  try clear R0
                  try clear HBn
                  have R2 := m0_
                  have R0 := m1_
                  have HBn := m2_
                  clear m0_ m1_ m2_
                  clear ho hb
                  refine hK.out _ _ ⟨(HBn.out.cell L4.out).trans hc4, (HBn.out.cell LA.out).trans hx⟩ (fun hHeld => ?_)
                  clear hK K
                  refine norm_ (a' := ?_) ?_ ?_
                  rotate_left
                  · show Act.put _ (some 46) _ = _
                    simp only [Act.put, List.setIfInBounds_toArray, List.set_cons_zero, List.set_cons_succ, i64_w, i32_w]
                    rfl
                  refine one_ (i := 5) (N := some 51) #[true, true, true, true, true, true, true, true, true, true, true, false, true, true, true, true, false, false, false] rfl rfl (by kernel_rfl) (by decide) (fun K hK => ?_)
                  refine Kd.R_append_rows_step (Kd.int .i64) (w0 := wr) wr.heap.size (by rfl) (.tmp 46) (.tmp 50) 22 3 (.int .i64 0) 8 rfl Tryd.underlying22 info3 rfl (by decide) (by omega) v46 ([] : List Int) (acc.take (kOf acc x)) _ _ _ (fun _ => True) (fun _ => False) rfl rfl ?aO ?aR (fun _ _ h => h) (fun _ h => h.elim) ?aF ?aB ?aS ?aL ?_
                  (case aR => exact HCu.out _ HBn.out)
                  (case aB => exact HBn.out)
                  (case aF => exact (fun _ _ => trivial))
                  (case aO => exact R0.out)
                  (case aS => exact HBn.out.size)
                  (case aL => have := HLen.out; simp only [List.length_append, List.length_cons, List.length_nil, List.length_take, List.length_drop]; omega)
                  intro v51 w51 ho hb hg hat
                  rw [List.nil_append] at ho
                  have m0_ := Aside0.mk (ho)
                  have m1_ := Aside0.mk (Kd.R_grown R2.out hg (fun _ hk => hk.2))
                  have m2_ := Aside0.mk (hb)
                  try clear R1
                  try clear R2
                  try clear HBn
                  have R1 := m0_
                  have R2 := m1_
                  have HBn := m2_
                  clear m0_ m1_ m2_
                  clear ho hb hg hat
                  refine hK.out _ _ ⟨(HBn.out.cell L4.out).trans hc4, (HBn.out.cell LA.out).trans hx⟩ (fun hHeld => ?_)
                  clear hK K
                  refine norm_ (a' := ?_) ?_ ?_
                  rotate_left
                  · show Act.put _ (some 51) _ = _
                    simp only [Act.put, List.setIfInBounds_toArray, List.set_cons_zero, List.set_cons_succ, i64_w, i32_w]
                    rfl
                  exact norm_ (by simp only [putAll, Act.put, List.setIfInBounds_toArray, List.set_cons_zero, List.set_cons_succ]) (hCont (v46, v51, v56) _ ⟨R1.out, Kd.R_mono R2.out (fun _ _ => trivial), HBn.out⟩)
              rintro ⟨v46, v51, v56⟩ w56 ⟨r1, r2, hbn⟩
              clear HBn
              have R1 := Aside0.mk r1
              have R2 := Aside0.mk r2
              have HBn := Aside0.mk hbn
              clear r1 r2 hbn
              obtain ⟨A56, c56, e56⟩ := Kd.R_slice R2.out
              have hHeld : w56.cell? ⟨g4, 1, none⟩ = some (.slice Au acc.length cu) ∧ w56.cell? (ad.add i.toNat) = some (.int .i64 x) := ⟨(HBn.out.cell L4.out).trans hc4, (HBn.out.cell LA.out).trans hx⟩
              dsimp only at e56
              subst e56
              refine norm_ (a' := ?_) ?_ ?_
              rotate_left
              · simp only [putAll, Act.put, List.setIfInBounds_toArray, List.set_cons_zero, List.set_cons_succ]
                rfl
              refine one_ (i := 11) (N := some 57) #[true, true, true, true, true, true, true, true, true, true, true, true, true, true, true, true, false, false, false] rfl rfl (by kernel_rfl) (by decide) (fun K hK => ?_)
              refine Kd.R_append_rows_step (Kd.int .i64) (w0 := wr) wr.heap.size (by rfl) (.tmp 51) (.tmp 56) 22 3 (.int .i64 0) 8 rfl Tryd.underlying22 info3 rfl (by decide) (by omega) v51 (acc.take (kOf acc x)) [x] _ _ _ (fun _ => True) (fun _ => False) rfl rfl ?aO ?aR (fun _ _ h => h) (fun _ h => h.elim) ?aF ?aB ?aS ?aL ?_
              (case aR => exact (R_C R2.out).2)
              (case aB => exact HBn.out)
              (case aF => exact (fun _ _ => trivial))
              (case aO => exact R1.out)
              (case aS => exact HBn.out.size)
              (case aL => have := HLen.out; simp only [List.length_append, List.length_cons, List.length_nil, List.length_take, List.length_drop]; omega)
              intro v57 w57 ho hb hg hat
              have m0_ := Aside0.mk (ho)
              have m1_ := Aside0.mk (hb)
              try clear R1
              try clear HBn
              have R1 := m0_
              have HBn := m1_
              clear m0_ m1_
              clear ho hb hg hat R2
              refine hK.out _ _ ⟨(HBn.out.cell L4.out).trans hc4, (HBn.out.cell LA.out).trans hx⟩ (fun hHeld => ?_)
              clear hK K
              refine norm_ (a' := ?_) ?_ ?_
              rotate_left
              · show Act.put _ (some 57) _ = _
                simp only [Act.put, List.setIfInBounds_toArray, List.set_cons_zero, List.set_cons_succ, i64_w, i32_w]
                rfl
              refine one_ (i := 16) (N := some 62) #[true, true, true, true, true, true, true, true, true, true, true, true, true, true, true, true, true, false, false] rfl rfl (by kernel_rfl) (by decide) (fun K hK => ?_)
              refine Kd.R_append_rows_step (Kd.int .i64) (w0 := wr) wr.heap.size (by rfl) (.tmp 57) (.tmp 61) 22 3 (.int .i64 0) 8 rfl Tryd.underlying22 info3 rfl (by decide) (by omega) v57 (acc.take (kOf acc x) ++ [x]) (acc.drop (kOf acc x)) _ _ _ (fun _ => True) (fun _ => False) rfl rfl ?aO ?aR (fun _ _ h => h) (fun _ h => h.elim) ?aF ?aB ?aS ?aL ?_
              (case aR => exact HCd.out _ HBn.out)
              (case aB => exact HBn.out)
              (case aF => exact (fun _ _ => trivial))
              (case aO => exact R1.out)
              (case aS => exact HBn.out.size)
              (case aL => have := HLen.out; simp only [List.length_append, List.length_cons, List.length_nil, List.length_take, List.length_drop]; omega)
              intro v62 w62 ho hb hg hat
              have m0_ := Aside0.mk ((show Kd.R (Kd.int .i64) 3 _ _ _ _ (rIns acc x) from ho))
              have m1_ := Aside0.mk (hb)
              try clear R1
              try clear HBn
              have R1 := m0_
              have HBn := m1_
              clear m0_ m1_
              clear ho hb hg hat
              obtain ⟨A62, c62, e62⟩ := Kd.R_slice R1.out
              subst e62
              refine hK.out _ _ ⟨(HBn.out.cell L4.out).trans hc4, (HBn.out.cell LA.out).trans hx⟩ (fun hHeld => ?_)
              clear hK K
              refine norm_ (a' := ?_) ?_ ?_
              rotate_left
              · show Act.put _ (some 62) _ = _
                simp only [Act.put, List.setIfInBounds_toArray, List.set_cons_zero, List.set_cons_succ, i64_w, i32_w]
                rfl
              refine pure_ (i := 17) (N := some 63) (v := ?_) (a' := ?_) #[true, true, true, true, true, true, true, true, true, true, true, true, true, true, true, true, true, true, false] rfl rfl (by kernel_rfl) (fun _ _ _ h => h) (Or.inl ⟨by rfl, ?_⟩) ?_ ?_
              rotate_left
              · intro w'
                go_simp
                with_reducible rfl
              rotate_left
              · simp only [Act.put, List.setIfInBounds_toArray, List.set_cons_zero, List.set_cons_succ, i64_w, i32_w]
                rfl
              refine last_ (i := 18) (N := none) #[true, true, true, true, true, true, true, true, true, true, true, true, true, true, true, true, true, true, true] rfl rfl (by kernel_rfl) (by decide) (fun K hK => ?_)
              have hst : w62.cell? ⟨g4, 1, none⟩ = some (.slice Au acc.length cu) := (HBn.out.cell L4.out).trans hc4
              have hsf := blk_frozen (blk_below (blk_below BK4r.out HBq.out) HBn.out) 1
              refine skip_ (w1 := ?_) (by rfl) rfl ?_ ?_
              rotate_left
              · go_simp
                rfl
              refine hK.out _ _ ?_
              clear hK K
              refine done_ (by kernel_rfl) ?_
              have hk1 := kOf_le acc x
              have BK4n := Aside0.mk (blk_below (blk_below BK4r.out HBq.out) HBn.out)
              have BK2n := Aside0.mk (blk_below (blk_below BK2r.out HBq.out) HBn.out)
              have HBw := Aside0.mk (show Below w.heap.size w w62 from below_step (below_step HB.out HBq.out) HBn.out)
              have BK4z := Aside0.mk (blk_put (cs := #[.bool false, .slice Au acc.length cu]) BK4n.out 1 (.slice A62 (rIns acc x).length c62) rfl)
              have BK2z := Aside0.mk (blk_far (p := ⟨g4, 1, none⟩) BK2n.out n24 (.slice A62 (rIns acc x).length c62))
              have HBz := Aside0.mk (show Below w.heap.size w (w62.setCell ⟨g4, 1, none⟩ (.slice A62 (rIns acc x).length c62)) from below_set HBw.out GE4.out)
              have HOz := Aside0.mk (Kd.R_mono (ok' := fun _ => True) (Kd.R_far (p := ⟨g4, 1, none⟩) (Kd.R_types (Kd.R_lower R1.out (below_step HB.out HBq.out).size) BK4n.out (by decide)) (fun _ hk => hk.2) (.slice A62 (rIns acc x).length c62)) (fun _ _ => trivial))
              clear hc4 hx
              try clear hHeld
              have hcza0 := (blk_cell BK4z.out 0).trans rfl
              have hcza1 := (blk_cell BK4z.out 1).trans rfl
              have hczb0 := (blk_cell BK2z.out 0).trans rfl
              have hczb1 := (blk_cell BK2z.out 1).trans rfl
              have hfzb0 := blk_frozen BK2z.out 0
              have hfzb1 := blk_frozen BK2z.out 1
              by_cases h33 : 32 < (rIns acc x).length
              · have c33 : decide (32 < ((rIns acc x).length : Int)) = true := decide_eq_true (by omega)
                rw [if_pos h33] at HF
                obtain ⟨rfl, rfl, rfl⟩ : r1 = false ∧ r2 = [] ∧ r3 = 22 := by
                  have := HF.out
                  simp only [Option.some.injEq, Prod.mk.injEq] at this
                  exact ⟨this.1.symm, this.2.1.symm, this.2.2.symm⟩
                go_wp2_with fail
                all_goals refine bodyPost_ret (results_ct rfl _ _ g2 24 #[.bool false, .slice none 0 0] (0, 0) _ rfl (blk_put (cs := #[.bool false, .slice none 0 0]) (blk_put (cs := #[.bool false, .slice none 0 0]) BK2z.out 0 (.bool false) rfl) 1 (.slice none 0 0) rfl) Tryd.underlying24 rfl (by kernel_rfl)) rfl ?_
                all_goals exact ⟨_, rfl, Kd.R_nil _ _ _ _ _, below_set (below_set HBz.out GE2.out) GE2.out⟩
              · have c33 : decide (32 < ((rIns acc x).length : Int)) = false := decide_eq_false (by omega)
                rw [if_neg h33] at HF
                have H32 := Aside0.mk h33
                clear h33
                go_wp2_with fail
                all_goals go_roundg (ko - 1)
                all_goals first | (have := HX.out; omega) | exact ⟨i + 1, rIns acc x, _, by go_num, ⟨by have := HX.out; have := H32.out; omega⟩, HF, HOz, BK2z, BK4z, HBz⟩
    · have c0_ : decide (i < (l0.length : Int)) = false := decide_eq_false hlt
      have hd0 : l0.drop i.toNat = [] := List.drop_of_length_le (by have := HK.out; omega)
      rw [hd0] at HF
      obtain ⟨rfl, ea, rfl⟩ : r1 = false ∧ acc = r2 ∧ r3 = 0 := by
        have := HF.out
        simp only [rmake, Option.some.injEq, Prod.mk.injEq] at this
        exact ⟨this.1.symm, this.2.1, this.2.2.symm⟩
      subst ea
      clear hlt hd0 HF
      go_wp2_with fail
      refine bodyPost_ret (results_ct rfl _ _ g2 24 #[.bool false, .slice Au _ cu] (0, 0) _ rfl (blk_put (cs := #[.bool false, .slice none 0 0]) (blk_put (cs := #[.bool false, .slice none 0 0]) BK2r.out 0 (.bool false) rfl) 1 (.slice Au _ cu) rfl) Tryd.underlying24 rfl (by kernel_rfl)) rfl ?_
      exact ⟨_, rfl, Kd.R_mono (Kd.R_far (p := ⟨g2, 1, none⟩) (Kd.R_far (p := ⟨g2, 0, none⟩) (Kd.R_types HO.out BK2r.out (by decide)) (fun _ hk => hk.2) _) (fun _ hk => hk.2) _) (fun _ _ => trivial), below_set (below_set HB.out GE2.out) GE2.out⟩
end Go.Proofs.YtphblnibjiohjaaDoor.PA
