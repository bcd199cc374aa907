/- white.Show: a whitelist's text, given what strconv.Itoa answers. -/
import Derived.Test.YtphblnibjiohjaaDoorW1
import Derived.Test.YtphblnibjiohjaaDoorMade
import Derived.Test.YtphblnibjiohjaaDoorShelf
import Derived.Lib.ItoaLen
namespace Go.Proofs.YtphblnibjiohjaaDoor.PA
open Go.RowKit Go.Proofs.YtphblnibjiohjaaDoorW.PrintWords Go.Proofs.YtphblnibjiohjaaDoorW.PrintLast Go.Proofs.YtphblnibjiohjaaDoorW.PrintMore
set_option linter.unusedVariables false
set_option linter.unusedSimpArgs false
theorem infoStr : (Tryd.prog.info? 9).map (fun i => (i.zero, i.size, i.bytes)) = some (some (.string ⟨#[]⟩), 1, 16) := by kernel_rfl

def num (n : Int) : ByteArray := ⟨(Lib.itoa n).toArray⟩
def showL (a : Bool) (l : List Int) : List UInt8 := if canB a l = true then (if a = true then [97, 108, 108] else if l = [] then [110, 111, 110, 101] else Lib.join (l.map Lib.itoa) [44]) else []

theorem num_list (n : Int) : (num n).data.toList = Lib.itoa n := by simp [num]

theorem joinTail_len (r : List (List UInt8)) : (Lib.joinTail [44] r).length = (r.map fun x => x.length + 1).sum := by
  unfold Lib.joinTail
  induction r with
  | nil => rfl
  | cons x r ih =>
    simp only [List.map_cons, List.flatten_cons, List.length_append, List.sum_cons, List.length_cons, List.length_nil, ih]
    omega
theorem join_len (xs : List (List UInt8)) (hx : ∀ x ∈ xs, x.length ≤ 21) : (Lib.join xs [44]).length ≤ 22 * xs.length := by
  cases xs with
  | nil => simp [Lib.join_nil]
  | cons x r =>
    rw [Lib.join_cons, List.length_append, joinTail_len]
    have h1 := hx x (List.mem_cons_self)
    have h2 : (r.map fun x => x.length + 1).sum ≤ 22 * r.length := by
      have hr : ∀ y ∈ r, y.length ≤ 21 := fun y hy => hx y (List.mem_cons_of_mem _ hy)
      clear hx h1
      induction r with
      | nil => simp
      | cons y r ih =>
        have := hr y List.mem_cons_self
        have := ih (fun z hz => hr z (List.mem_cons_of_mem _ hz))
        simp only [List.map_cons, List.sum_cons, List.length_cons]
        omega
    rw [List.length_cons]
    omega
theorem join_calls {w wr : World} {A2 : Option Addr} {c2 : Nat} {l : List Int} (HO : Kd.R Kd.string 9 wr w.heap.size (fun _ => True) (.slice A2 (l.map num).length c2) (l.map num)) (HB : Below w.heap.size w wr) (hl : l ≠ []) (h32 : l.length ≤ 32)
    (hb : ∀ x ∈ l, -9223372036854775808 ≤ x ∧ x ≤ 9223372036854775807) :
    Calls Tryd.prog 36 #[.slice A2 (l.map num).length c2, .string ⟨#[44]⟩] wr fun e w' => e = .returned (.string ⟨(Lib.join (l.map Lib.itoa) [44]).toArray⟩) ∧ Below wr.heap.size wr w' := by
  have ho := Kd.own_of_R HO
  rcases ho.2 with ⟨hv, hn⟩ | ⟨g, cap, cur, hv, hbase, hg, h1, h2, h3, h4⟩
  · exfalso
    rw [List.length_map] at hn
    exact hl (List.eq_nil_of_length_eq_zero hn)
  · injection hv with e1 e2 e3
    subst e1 e3
    have hm : (l.map num).map (·.data.toList) = l.map Lib.itoa := by rw [List.map_map]; exact List.map_congr_left fun n _ => num_list n
    have hjl := join_len (l.map Lib.itoa) (fun y hy => by obtain ⟨n, hn, rfl⟩ := List.mem_map.1 hy; exact Lib.itoa_length_le n (hb n hn).1 (hb n hn).2)
    rw [List.length_map] at hjl
    refine (Tryd.strings_Join g 0 c2 (l.map num) ⟨#[44]⟩ wr (fun j x hx => ?_) (blk_lt hg) (by rw [List.length_map]; omega) h1 ?_).mono ?_
    · obtain ⟨hj, he⟩ := List.getElem?_eq_some_iff.1 hx
      rw [Nat.mul_one] at h4
      have h5 : (cur.toList.take (l.map num).length)[j]? = (encs Value.string (l.map num))[j]? := by rw [h4]
      rw [List.getElem?_take_of_lt hj] at h5
      rw [blk_cell hg (0 + j), Nat.zero_add, ← Array.getElem?_toList, h5]
      show ((l.map num).map Value.string)[j]? = _
      rw [List.getElem?_map, hx]; rfl
    · rw [hm]
      show (Lib.join _ [44]).length ≤ _
      omega
    · rintro e w' ⟨rfl, hb2⟩
      refine ⟨?_, hb2⟩
      rw [hm]

set_option maxHeartbeats 4000000 in
set_option maxRecDepth 100000 in
theorem show_any (a : Bool) (A : Option Addr) (c : Nat) (l : List Int) (w : World) (hr : Kd.C (Kd.int .i64) w A l.length l) (hc : l.length ≤ c) (hn : l.length ≤ 140737488355328) (hb : ∀ x ∈ l, -9223372036854775808 ≤ x ∧ x ≤ 9223372036854775807)
    (hI : ∀ x ∈ l, ∀ W, Below w.heap.size w W → Calls Tryd.prog 35 #[.int .i64 x] W fun e w' => e = .returned (.string (num x)) ∧ Below W.heap.size W w') :
    Calls Tryd.prog 13 #[.agg #[.bool a, .slice A l.length c]] w fun e w' => e = .returned (.string ⟨(showL a l).toArray⟩) ∧ Below w.heap.size w w' := by
  have hu := Tryd.underlying24
  have HR := Aside0.mk hr
  have HC := Aside0.mk hc
  have HI := Aside0.mk hI
  have HBd := Aside0.mk hb
  have HCan := Aside0.mk (can_all a l hn (l.length + 1) (by omega))
  have HN := Aside0.mk hn
  obtain ⟨r, hs⟩ : ∃ r, r = showL a l := ⟨_, rfl⟩
  rw [← hs]
  unfold showL at hs
  clear hr hc hI hb hn
  by_cases ha : canB a l = true
  case neg =>
    rw [Bool.eq_false_iff.2 ha] at HCan
    rw [if_neg ha] at hs
    subst hs
    clear ha
    go_enter Tryd.func13, Tryd.ntmps13
    go_wp2_with (first | ((with_reducible refine gate_dst (N := 1) rfl ?_); refine box_event ?hg (N := 1) ?hd (cs := #[.bool a, .slice A l.length c]) (t := 24) ?hr ?_; (case hd => rfl); (case hg => rfl); (case hr => first | (go_simp; done) | (go_simp; rfl)); intro g2 hg w1 BK hb; have BK2 := Aside0.mk BK; have HB2 := Aside0.mk hb; clear BK hb hg; have hcz0 := (blk_cell BK2.out 0).trans rfl; have hcz1 := (blk_cell BK2.out 1).trans rfl) | ((with_reducible refine gate_callee (f := 34) rfl ?_); refine goesL_ (some 8) rfl rfl Tryd.func34 (by kernel_rfl) rfl #[.agg #[.bool a, .slice A l.length c]] rfl (by (try simp only [List.map_toArray, List.map_cons, List.map_nil]); first | done | rfl) ?_; refine (white_can.calls (l.length + 1) a A c l false _ ?s1 ?s2 HCan.out).mono ?_; (case s1 => exact Kd.C_below HR.out HB2.out); (case s2 => exact HC.out); rintro e w3 ⟨rfl, hb⟩; refine ⟨_, rfl, ?_⟩; have HB3 := Aside0.mk (below_step HB2.out hb); have BK3 := Aside0.mk (blk_below BK2.out hb); clear hb hcz0 hcz1; have hcz0 := (blk_cell BK3.out 0).trans rfl; have hcz1 := (blk_cell BK3.out 1).trans rfl))
    go_ret
    exact ⟨rfl, HB3.out⟩
  rw [if_pos ha] at hs
  rw [ha] at HCan
  cases a with
  | true =>
    rw [if_pos rfl] at hs
    subst hs
    clear ha
    go_enter Tryd.func13, Tryd.ntmps13
    go_wp2_with (first | ((with_reducible refine gate_dst (N := 1) rfl ?_); refine box_event ?hg (N := 1) ?hd (cs := #[.bool true, .slice A l.length c]) (t := 24) ?hr ?_; (case hd => rfl); (case hg => rfl); (case hr => first | (go_simp; done) | (go_simp; rfl)); intro g2 hg w1 BK hb; have BK2 := Aside0.mk BK; have HB2 := Aside0.mk hb; clear BK hb hg; have hcz0 := (blk_cell BK2.out 0).trans rfl; have hcz1 := (blk_cell BK2.out 1).trans rfl) | ((with_reducible refine gate_callee (f := 34) rfl ?_); refine goesL_ (some 8) rfl rfl Tryd.func34 (by kernel_rfl) rfl #[.agg #[.bool true, .slice A l.length c]] rfl (by (try simp only [List.map_toArray, List.map_cons, List.map_nil]); first | done | rfl) ?_; refine (white_can.calls (l.length + 1) true A c l true _ ?s1 ?s2 HCan.out).mono ?_; (case s1 => exact Kd.C_below HR.out HB2.out); (case s2 => exact HC.out); rintro e w3 ⟨rfl, hb⟩; refine ⟨_, rfl, ?_⟩; have HB3 := Aside0.mk (below_step HB2.out hb); have BK3 := Aside0.mk (blk_below BK2.out hb); clear hb hcz0 hcz1; have hcz0 := (blk_cell BK3.out 0).trans rfl; have hcz1 := (blk_cell BK3.out 1).trans rfl))
    go_ret
    exact ⟨rfl, HB3.out⟩
  | false =>
    rw [if_neg (by simp)] at hs
    by_cases hl : l = []
    · rw [if_pos hl] at hs
      subst hs hl
      clear ha
      go_enter Tryd.func13, Tryd.ntmps13
      go_wp2_with (first | ((with_reducible refine gate_dst (N := 1) rfl ?_); refine box_event ?hg (N := 1) ?hd (cs := #[.bool false, .slice A ([] : List Int).length c]) (t := 24) ?hr ?_; (case hd => rfl); (case hg => rfl); (case hr => first | (go_simp; done) | (go_simp; rfl)); intro g2 hg w1 BK hb; have BK2 := Aside0.mk BK; have HB2 := Aside0.mk hb; clear BK hb hg; have hcz0 := (blk_cell BK2.out 0).trans rfl; have hcz1 := (blk_cell BK2.out 1).trans rfl) | ((with_reducible refine gate_callee (f := 34) rfl ?_); refine goesL_ (some 8) rfl rfl Tryd.func34 (by kernel_rfl) rfl #[.agg #[.bool false, .slice A ([] : List Int).length c]] rfl (by (try simp only [List.map_toArray, List.map_cons, List.map_nil]); first | done | rfl) ?_; refine (white_can.calls (([] : List Int).length + 1) false A c ([] : List Int) true _ ?s1 ?s2 HCan.out).mono ?_; (case s1 => exact Kd.C_below HR.out HB2.out); (case s2 => exact HC.out); rintro e w3 ⟨rfl, hb⟩; refine ⟨_, rfl, ?_⟩; have HB3 := Aside0.mk (below_step HB2.out hb); have BK3 := Aside0.mk (blk_below BK2.out hb); clear hb hcz0 hcz1; have hcz0 := (blk_cell BK3.out 0).trans rfl; have hcz1 := (blk_cell BK3.out 1).trans rfl))
      go_ret
      exact ⟨rfl, HB3.out⟩
    rw [if_neg hl] at hs
    have HS := Aside0.mk hs
    have HL0 := Aside0.mk hl
    have hl0 : ((l.length : Int) == 0) = false := by
      have : l.length ≠ 0 := fun h => hl (List.eq_nil_of_length_eq_zero h)
      simp; exact hl
    have h32 := ((canL_iff' l).1 (by simpa [canB] using ha)).2.2
    clear hs ha hl
    go_enter Tryd.func13, Tryd.ntmps13
    go_wp2_with (first | ((with_reducible refine gate_dst (N := 1) rfl ?_); refine box_event ?hg (N := 1) ?hd (cs := #[.bool false, .slice A l.length c]) (t := 24) ?hr ?_; (case hd => rfl); (case hg => rfl); (case hr => first | (go_simp; done) | (go_simp; rfl)); intro g2 hg w1 BK hb; have BK2 := Aside0.mk BK; have HB2 := Aside0.mk hb; clear BK hb hg; have hcz0 := (blk_cell BK2.out 0).trans rfl; have hcz1 := (blk_cell BK2.out 1).trans rfl) | ((with_reducible refine gate_callee (f := 34) rfl ?_); refine goesL_ (some 8) rfl rfl Tryd.func34 (by kernel_rfl) rfl #[.agg #[.bool false, .slice A l.length c]] rfl (by (try simp only [List.map_toArray, List.map_cons, List.map_nil]); first | done | rfl) ?_; refine (white_can.calls (l.length + 1) false A c l true _ ?s1 ?s2 HCan.out).mono ?_; (case s1 => exact Kd.C_below HR.out HB2.out); (case s2 => exact HC.out); rintro e w3 ⟨rfl, hb⟩; refine ⟨_, rfl, ?_⟩; have HB3 := Aside0.mk (below_step HB2.out hb); have BK3 := Aside0.mk (blk_below BK2.out hb); clear hb hcz0 hcz1; have hcz0 := (blk_cell BK3.out 0).trans rfl; have hcz1 := (blk_cell BK3.out 1).trans rfl))
    go_loopg [3, 21] l.length (fun kq v3 v21 wr => ∃ (x : Int) (u : Value), u = v3 ∧ v21 = .int .i64 x ∧ Aside0 (0 ≤ x ∧ x + kq = l.length) ∧ Aside0 (Kd.R Kd.string 9 wr w.heap.size (fun _ => True) u ((l.take x.toNat).map num)) ∧ Aside0 (wr.heap[g2]? = some (.cells #[.bool false, .slice A l.length c] 24 (0, 0))) ∧ Aside0 (Below w.heap.size w wr))
    case atStart => exact ⟨0, _, rfl, rfl, ⟨by omega⟩, ⟨Kd.R_nil _ _ _ _ _⟩, BK3, HB3⟩
    case round =>
      clear hcz0 hcz1
      obtain ⟨x, u, rfl, rfl, HK, HO, BKr, HB⟩ := hrel
      have hcz0 := (blk_cell BKr.out 0).trans rfl
      have hcz1 := (blk_cell BKr.out 1).trans rfl
      by_cases hlt : x < (l.length : Int)
      · have c0 : decide (x < (l.length : Int)) = true := decide_eq_true hlt
        obtain ⟨h0, h1⟩ := HK.out
        obtain ⟨ad, ead, hx⟩ := Kd.at_int HR.out x h0 hlt
        cases ead
        replace hx := (HB.out.cell (World.block_lt_of_cell? w _ hx)).trans hx
        have HT := Aside0.mk (show (l.take (x + 1).toNat).map num = (l.take x.toNat).map num ++ [num (rd l x)] by
          rw [show (x + 1).toNat = x.toNat + 1 by omega, List.take_succ_eq_append_getElem (by omega), List.map_append]
          show _ = (l.take x.toNat).map num ++ [num (l.getD x.toNat 0)]
          rw [gd (by omega)]; rfl)
        have HMem := Aside0.mk (show rd l x ∈ l from getD_mem (by omega))
        have HX := Aside0.mk (And.intro h0 (And.intro h1 (And.intro hlt (show ((l.take x.toNat).map num).length = x.toNat by rw [List.length_map, List.length_take]; omega))))
        have q0 := eq_true hlt
        have hx7 : x < 9223372036854775807 := by omega
        have hx0 := h0
        clear h0 h1 hlt
        go_wp2_with (first
          | ((with_reducible refine gate_callee (f := 35) rfl ?_); refine goesL_ (some 27) rfl rfl Tryd.func35 (by kernel_rfl) rfl #[.int .i64 (rd l x)] rfl (by (try simp only [List.map_toArray, List.map_cons, List.map_nil]); first | done | rfl) ?_; refine (HI.out (rd l x) HMem.out _ HB.out).mono ?_; rintro e w4 ⟨rfl, hb⟩; refine ⟨_, rfl, ?_⟩; have HB4 := Aside0.mk (below_step HB.out hb); have BK4 := Aside0.mk (blk_below BKr.out hb); have HO4 := Aside0.mk (Kd.R_below HO.out hb); clear hb)
          | ((with_reducible refine gate_builtin (b := .append) (xs := #[.tmp 25, .tmp 28]) rfl ?_); at_builtin; refine Kd.R_append Kd.string (w0 := w) w.heap.size rfl (.tmp 25) (.tmp 28) 45 9 (.string ⟨#[]⟩) 16 rfl Tryd.underlying45 infoStr rfl (by decide) (by omega) u ((l.take x.toNat).map num) (num (rd l x)) [.string (num (rd l x))] (fun _ => True) (fun _ => False) rfl rfl ?aP (fun _ h => h.elim) ?aF ?aO ?aB ?aS ?aL ?_; (case aP => rfl); (case aF => exact fun _ _ => trivial); (case aO => exact HO4.out); (case aB => exact HB4.out); (case aS => exact HB4.out.size); (case aL => rw [HX.out.2.2.2]; have := HX.out; have := HN.out; omega); intro v1 w5 ho hb hg hat; rw [← HT.out] at ho; have HO5 := Aside0.mk ho; have HB5 := Aside0.mk hb; have BK5 := Aside0.mk (blk_grown BK4.out hg ?bne); (case bne => exact fun h => absurd (own_typed (Classical.choose_spec (Kd.R_own HO4.out)) g2 h.symm) (by rintro ⟨cells, hc⟩; rw [BK4.out] at hc; cases hc)); clear ho hb hg hat))
        go_roundg (gk - 1)
        case measure => have := HX.out; omega
        case rel => exact ⟨x + 1, _, rfl, by go_num, ⟨by have := HX.out; omega⟩, HO5, BK5, HB5⟩
      · have c0 : decide (x < (l.length : Int)) = false := decide_eq_false hlt
        have HX := Aside0.mk (show l.take x.toNat = l from List.take_of_length_le (by have := HK.out; omega))
        clear hlt
        rw [HX.out] at HO
        obtain ⟨A2, c2, eo⟩ := Kd.R_slice HO.out
        subst eo
        have HJ := Aside0.mk (join_calls HO.out HB.out HL0.out h32 HBd.out)
        go_wp2_with ((with_reducible refine gate_callee (f := 36) rfl ?_); refine goesL_ (some 32) rfl rfl Tryd.func36 (by kernel_rfl) rfl #[.slice A2 (l.map num).length c2, .string ⟨#[44]⟩] rfl (by (try simp only [List.map_toArray, List.map_cons, List.map_nil]); first | done | rfl) ?_; refine HJ.out.mono ?_; rintro e w6 ⟨rfl, hb⟩; refine ⟨_, rfl, ?_⟩; have HB6 := Aside0.mk (below_step HB.out hb); clear hb)
        go_ret
        exact ⟨by rw [HS.out]; rfl, HB6.out⟩

/-- At small numbers, where strconv reads no table. -/
def white_Show.f (a0_0 : Bool) (l0_1 : List Int) : Option ByteArray := if l0_1.length ≤ 140737488355328 ∧ ∀ x ∈ l0_1, 0 ≤ x ∧ x < 100 then some ⟨(showL a0_0 l0_1).toArray⟩ else none
theorem white_Show.calls (a0_0 : Bool) (A0_1 : Option Addr) (c0_1 : Nat) (l0_1 : List Int) (r : ByteArray) (w : World) (hr0_1 : Kd.C (Kd.int .i64) w A0_1 l0_1.length l0_1) (hc0_1 : l0_1.length ≤ c0_1) (h : white_Show.f a0_0 l0_1 = some r) :
    Calls Tryd.prog 13 #[.agg #[.bool a0_0, .slice A0_1 l0_1.length c0_1]] w fun e w' => e = .returned (.string r) ∧ Below w.heap.size w w' := by
  unfold white_Show.f at h
  by_cases hh : l0_1.length ≤ 140737488355328 ∧ ∀ x ∈ l0_1, 0 ≤ x ∧ x < 100
  · rw [if_pos hh] at h
    obtain rfl := Option.some.inj h
    refine show_any a0_0 A0_1 c0_1 l0_1 w hr0_1 hc0_1 hh.1 (fun x hx => by have := hh.2 x hx; omega) (fun x hx W hW => ?_)
    obtain ⟨n, rfl⟩ := Int.eq_ofNat_of_zero_le (hh.2 x hx).1
    refine (Tryd.strconv_Itoa_small n (by have := (hh.2 _ hx).2; omega) W).mono ?_
    rintro e w' ⟨rfl, rfl⟩
    exact ⟨by simp [num, Lib.itoa], Below.refl _ _⟩
  · rw [if_neg hh] at h
    cases h
end Go.Proofs.YtphblnibjiohjaaDoor.PA
