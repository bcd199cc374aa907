/- Parts of one proof, put together by a program of this session's (wip/merge.py). -/
import Derived.Test.YtilfalpfanaanaaMClones0
import Derived.Test.YtilfalpfanaanaaMClones1
import Derived.Test.YtilfalpfanaanaaMClones2
import Derived.Deep.RegionLaw
import Derived.Outline
set_option linter.unusedVariables false
set_option linter.unusedSimpArgs false
namespace Go.Proofs.Ytilfalpfanaanaa.PA
open Go.RowKit Go.Proofs.YtilfalpfanaanaaW.PrintWords Go.Proofs.YtilfalpfanaanaaW.PrintLast Go.Proofs.YtilfalpfanaanaaW.PrintMore
attribute [local go_sem] max2_int min2_int max_two min_two max_three min_three max_four min_four   -- for this text's walks alone
mutual
def purlieuref13_Free.j0 : Nat → List (S28) → Int → Bool → Option (Int × Int)
  | 0, _, _, _ => none
  | k + 1, x0, x1, x14 => if x14 = true then (some (0, 22)) else (purlieuref13_Free.l0 k x0 x1)
def purlieuref13_Free.l0 : Nat → List (S28) → Int → Option (Int × Int)
  | 0, _, _ => none
  | k + 1, x0, x6 => if x6 < (x0.length : Int) then (if 0 ≤ x6 then (if ((rd_T28 x0 x6).f0) = 0 then (some (x6, 0)) else (purlieuref13_Free.l0 k x0 (wrap64 (x6 + 1)))) else (none)) else (some (0, 24))
end
def purlieuref13_Free.f (k : Nat) (l0 : List (S28)) (a1 : Int) : Option (Int × Int) := if a1 < 0 then (purlieuref13_Free.j0 k l0 a1 true) else (purlieuref13_Free.j0 k l0 a1 (decide (a1 ≥ (l0.length : Int))))
set_option maxHeartbeats 8000000 in
set_option maxRecDepth 100000 in
theorem purlieuref13_Free.calls (k : Nat) (A0 : Option Addr) (c0 : Nat) (l0 : List (S28)) (a1 : Int) (r1 : Int) (r2 : Int) (w : World) (hr0 : Kd.C k28 w A0 l0.length l0) (hc0 : l0.length ≤ c0) (h : purlieuref13_Free.f k l0 a1 = some (r1, r2)) :
    Calls Try.prog 22 #[.slice A0 l0.length c0, .int .i64 a1] w fun e w' => e = .returned (.tuple #[.int .i64 r1, .int .i64 r2]) ∧ Drawn0 w w' := by
  have HR0 := Aside0.mk hr0
  have HC0 := Aside0.mk hc0
  clear hr0 hc0
  have H : (if a1 < 0 then (purlieuref13_Free.j0 k l0 a1 true) else (purlieuref13_Free.j0 k l0 a1 (decide (a1 ≥ (l0.length : Int))))) = some (r1, r2) := h
  clear h
  have HC3 := Aside0.mk H
  clear H
  go_enter Try.func22, Try.ntmps22
  go_upto_region 1 with (fail)
  go_cut [14] (fun v14 wc => ∃ (kq : Nat) (x14_2 : Bool), v14 = .bool x14_2 ∧ Aside0 (purlieuref13_Free.j0 kq l0 a1 x14_2 = some (r1, r2)) ∧ Aside0 (kq ≤ k) ∧ Drawn0 w wc)
  case first =>
    have H := HC3.out
    clear HC3
    by_cases c4 : a1 < 0
    · rw [if_pos c4] at H
      have c4b0 : decide (a1 < 0) = true := decide_eq_true c4
      clear c4
      (first | rw [c4b0] | (simp only [i64_w, i32_w]; rw [c4b0]) | skip)
      have H' := Aside0.mk H
      clear H
      go_wp2
      go_meet
      case rel => exact ⟨_, (true), (by first | rfl | (simp; done) | (simp [*]; done)), H', ⟨by first | omega | exact Nat.le_refl _⟩, by repeat (first | exact Drawn0.refl _ | apply Drawn0.step)⟩
    · rw [if_neg c4] at H
      have c4b0 : decide (a1 < 0) = false := decide_eq_false c4
      clear c4
      (first | rw [c4b0] | (simp only [i64_w, i32_w]; rw [c4b0]) | skip)
      have H' := Aside0.mk H
      clear H
      go_wp2
      go_meet
      case rel => exact ⟨_, (decide (a1 ≥ (l0.length : Int))), (by first | rfl | (simp; done) | (simp [*]; done)), H', ⟨by first | omega | exact Nat.le_refl _⟩, by repeat (first | exact Drawn0.refl _ | apply Drawn0.step)⟩
  case rest =>
    clear HC3
    try clear c2
    try clear p2
    try clear c4
    try clear c4b0
    obtain ⟨kq, x14_2, rfl, HA, HJ2, ⟨mc2, rfl⟩⟩ := hcut
    cases kq with
    | zero => exact absurd HA.out (by simp [purlieuref13_Free.j0])
    | succ kj2 =>
      have H := HA.out
      clear HA
      simp only [purlieuref13_Free.j0] at H
      by_cases c5 : x14_2 = true
      · subst c5
        have H1 : (some (0, 22)) = some (r1, r2) := by rw [if_pos rfl] at H; exact H
        clear H
        have H := H1
        clear H1
        simp only [Option.some.injEq, Prod.mk.injEq] at H
        obtain ⟨rfl, rfl⟩ := H
        go_wp2
        go_ret2
        exact ⟨by first | rfl | (simp; done) | (simp [*]; done), by repeat (first | exact Drawn0.refl _ | apply Drawn0.step)⟩
      · replace c5 := Bool.eq_false_iff.mpr c5
        subst c5
        have H1 : (purlieuref13_Free.l0 kj2 l0 a1) = some (r1, r2) := by rw [if_neg (show ¬ (false = true) by decide)] at H; exact H
        clear H
        have H := H1
        clear H1
        have H' := Aside0.mk H
        clear H
        go_wp2
        go_loopg [6] kj2 (fun kq v6 w' => ∃ (x6_2 : Int), v6 = .int .i64 x6_2 ∧ Aside0 (purlieuref13_Free.l0 kq l0 x6_2 = some (r1, r2)) ∧ Aside0 (kq ≤ kj2) ∧ Drawn0 w w')
        case atStart => exact ⟨(a1), (by first | rfl | (simp; done) | (simp [*]; done)), H', ⟨Nat.le_refl _⟩, by repeat (first | exact Drawn0.refl _ | apply Drawn0.step)⟩
        case round =>
          clear H'
          try clear c2
          try clear p2
          try clear c4
          try clear c4b0
          try clear c5
          try clear p2
          obtain ⟨x6_2, rfl, HA, HK2, ⟨m2, rfl⟩⟩ := hrel
          cases gk with
          | zero => exact absurd HA.out (by simp [purlieuref13_Free.l0])
          | succ k2 =>
            have H := HA.out
            clear HA
            simp only [purlieuref13_Free.l0] at H
            by_cases c6 : x6_2 < (l0.length : Int)
            · rw [if_pos c6] at H
              have c6b0 : decide (x6_2 < (l0.length : Int)) = true := decide_eq_true c6
              clear c6
              by_cases c7 : 0 ≤ x6_2
              · rw [if_pos c7] at H
                have c7b0 : decide (0 ≤ x6_2) = true := decide_eq_true c7
                clear c7
                by_cases c8 : ((rd_T28 l0 x6_2).f0) = 0
                · rw [if_pos c8] at H
                  have c8b0 : (((rd_T28 l0 x6_2).f0) == 0) = true := beq_iff_eq.mpr c8
                  have c8b1 : (((rd_T28 l0 x6_2).f0) != 0) = false := bne_eq_false_iff_eq.mpr c8
                  clear c8
                  simp only [Option.some.injEq, Prod.mk.injEq] at H
                  obtain ⟨rfl, rfl⟩ := H
                  have p144 : 0 ≤ (x6_2 : Int) := of_decide_eq_true (by first | (with_reducible assumption) | assumption)
                  have q144 : x6_2 < (l0.length : Int) := of_decide_eq_true (by first | (with_reducible assumption) | assumption)
                  obtain ⟨ad144, A144_3, c144_3, e144, hx144_0, hx144_1, hx144_2, hx144_3, hx144_4, hl144_3, hi144_3⟩ := at_T28 HR0.out x6_2 p144 q144
                  cases e144
                  have HR144_3 := Aside0.mk hi144_3
                  have HC144_3 := Aside0.mk hl144_3
                  clear hi144_3 hl144_3
                  replace p144 := eq_true p144
                  replace q144 := eq_true q144
                  go_wp2
                  go_ret2
                  exact ⟨by first | rfl | (simp; done) | (simp [*]; done), by repeat (first | exact Drawn0.refl _ | apply Drawn0.step)⟩
                · rw [if_neg c8] at H
                  have c8b0 : (((rd_T28 l0 x6_2).f0) == 0) = false := beq_eq_false_iff_ne.mpr c8
                  have c8b1 : (((rd_T28 l0 x6_2).f0) != 0) = true := bne_iff_ne.mpr c8
                  have H' := Aside0.mk H
                  clear H
                  have p144 : 0 ≤ (x6_2 : Int) := of_decide_eq_true (by first | (with_reducible assumption) | assumption)
                  have q144 : x6_2 < (l0.length : Int) := of_decide_eq_true (by first | (with_reducible assumption) | assumption)
                  obtain ⟨ad144, A144_3, c144_3, e144, hx144_0, hx144_1, hx144_2, hx144_3, hx144_4, hl144_3, hi144_3⟩ := at_T28 HR0.out x6_2 p144 q144
                  cases e144
                  have HR144_3 := Aside0.mk hi144_3
                  have HC144_3 := Aside0.mk hl144_3
                  clear hi144_3 hl144_3
                  replace p144 := eq_true p144
                  replace q144 := eq_true q144
                  go_wp2
                  go_roundg k2
                  case measure => have := HJ2.out; have := HK2.out; omega
                  case rel => exact ⟨(wrap64 (x6_2 + 1)), (by first | rfl | (simp; done) | (simp [*]; done)), H', ⟨by have := HJ2.out; have := HK2.out; omega⟩, by repeat (first | exact Drawn0.refl _ | apply Drawn0.step)⟩
              · rw [if_neg c7] at H
                exact absurd H (by simp)
            · rw [if_neg c6] at H
              have c6b0 : decide (x6_2 < (l0.length : Int)) = false := decide_eq_false c6
              clear c6
              simp only [Option.some.injEq, Prod.mk.injEq] at H
              obtain ⟨rfl, rfl⟩ := H
              go_wp2
              go_ret2
              exact ⟨by first | rfl | (simp; done) | (simp [*]; done), by repeat (first | exact Drawn0.refl _ | apply Drawn0.step)⟩
end Go.Proofs.Ytilfalpfanaanaa.PA

namespace Go.Proofs.Ytilfalpfanaanaa.PA
open Go.RowKit Go.Proofs.YtilfalpfanaanaaW.PrintWords Go.Proofs.YtilfalpfanaanaaW.PrintLast Go.Proofs.YtilfalpfanaanaaW.PrintMore Go.Proofs.Ytilfalpfanaanaa.Sx
def fullS (f : Int) : Slot := ⟨f, 4294967295, ⟨true, []⟩, 120⟩
theorem nums_same (l : List Int) (hl : l.length ≤ 140737488355328) : ∃ k, purlieuref02_Nums.f k l l = some true := by
  have key : ∀ (d k i : Nat), i + d = l.length → d < k → purlieuref02_Nums.l0 k l l (i : Int) = some true := by
    intro d
    induction d with
    | zero =>
      intro k i hi hk
      obtain ⟨k, rfl⟩ : ∃ m, k = m + 1 := ⟨k - 1, by omega⟩
      simp only [purlieuref02_Nums.l0]
      rw [if_neg (by omega)]
    | succ d ih =>
      intro k i hi hk
      obtain ⟨k, rfl⟩ : ∃ m, k = m + 1 := ⟨k - 1, by omega⟩
      have step := ih k (i + 1) (by omega) (by omega)
      simp only [purlieuref02_Nums.l0]
      have hw : wrap64 ((i : Int) + 1) = ((i + 1 : Nat) : Int) := by unfold wrap64; omega
      simp only [hw, step]
      repeat (first | rw [if_pos (by omega)] | rw [if_pos rfl])
      try simp
  refine ⟨l.length + 1, ?_⟩
  unfold purlieuref02_Nums.f
  rw [if_pos rfl]
  exact key l.length (l.length + 1) 0 (by omega) (by omega)
theorem one_same (s : Slot) (hl : s.f2.f1.length ≤ 140737488355328) : ∃ k, purlieuref13_One.f k s.f0 s.f1 s.f2.f0 s.f2.f1 s.f3 s.f0 s.f1 s.f2.f0 s.f2.f1 s.f3 = some true := by
  obtain ⟨k, hk⟩ := nums_same s.f2.f1 hl
  refine ⟨k, ?_⟩
  unfold purlieuref13_One.f purlieuref02_Same.f
  rw [if_pos rfl, if_pos rfl, if_pos rfl, if_pos (by simp), hk]
  rfl
theorem can_full (f : Int) (hf : 0 < f) : ∃ k, slots_can.f k f 4294967295 true [] 120 = some true := by
  refine ⟨2, ?_⟩
  unfold slots_can.f
  rw [if_pos hf]
  decide +kernel
theorem full_eq (f : Int) : slots_Full.f f = some (f, 4294967295, true, [], 120) := rfl
theorem Put_at {w : World} {b g p : Nat} {ok : Nat → Prop} {qs : List (Option Nat)} {ss : List (Option Slot)} (h : TabAt w b ok g p qs ss) (hok : ∀ k, w.heap.size ≤ k → ok k) (fd : Int) (h0 : 0 ≤ fd) (h1 : fd < (qs.length : Int))
    (hn : nfree (qs.drop fd.toNat) < qs.length - fd.toNat) (s : Slot) (A : Option Addr) (c : Nat) (hr : Kd.C (Kd.int .i64) w A s.f2.f1.length s.f2.f1) (hc : s.f2.f1.length ≤ c) (k : Nat) (hcan : slots_can.f k s.f0 s.f1 s.f2.f0 s.f2.f1 s.f3 = some true) (hl : s.f2.f1.length * 8 ≤ 140737488355328) (z : Int) (hz : fd + nfree (qs.drop fd.toNat) = z) :
    Calls Try.prog 11 #[.pointer (some ⟨g, 0, none⟩), .int .i64 fd, .agg #[.int .i64 s.f0, .int .u32 s.f1, .bool s.f2.f0, .slice A s.f2.f1.length c, .int .i64 s.f3]] w fun e w' => e = .returned (.tuple #[.int .i64 z, .int .i64 0]) ∧ (∃ q, TabAt w' b ok g p (qs.set z.toNat (some q)) (ss.set z.toNat (some s))) ∧ Ext (fun k => k = p) w w' := by
  subst hz
  exact Put_ok h hok fd h0 h1 hn s A c hr hc k hcan hl
theorem limS_one : limS (fullS 7) 1 = ⟨7, 1, ⟨false, []⟩, 0⟩ := by
  unfold limS fullS
  rw [if_pos (by decide +kernel), if_pos (by decide +kernel)]
theorem below_own {w w1 w2 : World} {g : Nat} (h : Below w.heap.size w w1) (e : Ext (fun m => m = g) w1 w2) (hg : w.heap.size ≤ g) : Below w.heap.size w w2 :=
  ⟨e.os.trans h.os, e.tape.trans h.tape, e.output.trans h.output, Nat.le_trans h.size e.size, fun k hk => (e.block k (Nat.lt_of_lt_of_le hk h.size) (by omega)).trans (h.block k hk)⟩
end Go.Proofs.Ytilfalpfanaanaa.PA

namespace Go.Proofs.Ytilfalpfanaanaa.BitsLaw
open Go.Proofs.YtilfalpfanaanaaW.PrintWords Go.Proofs.YtilfalpfanaanaaW.PrintMore Go.RowKit
def bv (a : Int) : BitVec 64 := BitVec.ofInt 64 a
def bt64 (a : Int) (i : Nat) : Bool := (bv a).getLsbD i
theorem bv_toNat (a : Int) : (bv a).toNat = (a % 18446744073709551616).toNat := by
  unfold bv
  rw [BitVec.toNat_ofInt]
  rfl
theorem parity (a : Int) (i : Nat) (hi : i < 64) : (a % 18446744073709551616) / (2 : Int) ^ i % 2 = a / (2 : Int) ^ i % 2 := by
  have hM : (18446744073709551616 : Int) = (2 : Int) ^ i * (2 * (2 : Int) ^ (63 - i)) :=
    (show ∀ i : Fin 64, (18446744073709551616 : Int) = (2 : Int) ^ i.val * (2 * (2 : Int) ^ (63 - i.val)) by decide +kernel) ⟨i, hi⟩
  have hp : (2 : Int) ^ i ≠ 0 := Int.pow_ne_zero (by decide)
  have h1 : a % 18446744073709551616 = a + (2 : Int) ^ i * (2 * (-((2 : Int) ^ (63 - i) * (a / 18446744073709551616)))) := by
    have h2 := Int.emod_add_mul_ediv a 18446744073709551616
    have h3 : (18446744073709551616 : Int) * (a / 18446744073709551616) = (2 : Int) ^ i * (2 * ((2 : Int) ^ (63 - i) * (a / 18446744073709551616))) := by
      calc (18446744073709551616 : Int) * (a / 18446744073709551616) = ((2 : Int) ^ i * (2 * (2 : Int) ^ (63 - i))) * (a / 18446744073709551616) := by rw [← hM]
        _ = _ := by rw [Int.mul_assoc, Int.mul_assoc]
    rw [Int.mul_neg, Int.mul_neg, ← h3]
    omega
  rw [h1, Int.add_mul_ediv_left _ _ hp]
  omega
theorem bt64_eq (a : Int) (i : Nat) (hi : i < 64) : bt64 a i = decide (a / (2 : Int) ^ i % 2 = 1) := by
  unfold bt64
  rw [BitVec.getLsbD, bv_toNat, Nat.testBit_eq_decide_div_mod_eq, ← parity a i hi]
  have h0 : 0 ≤ a % 18446744073709551616 := Int.emod_nonneg _ (by decide)
  obtain ⟨m, hm⟩ := Int.eq_ofNat_of_zero_le h0
  rw [hm]
  rw [show ((2 : Int) ^ i) = ((2 ^ i : Nat) : Int) by simp]
  simp only [Int.toNat_natCast]
  rw [decide_eq_decide]
  constructor
  · intro h
    have h2 : ((m / 2 ^ i % 2 : Nat) : Int) = 1 := by rw [h]; rfl
    simpa using h2
  · intro h
    have h2 : ((m / 2 ^ i % 2 : Nat) : Int) = 1 := by simpa using h
    omega
theorem wrap_zero (m : Nat) (_hm : m < 18446744073709551616) : IntKind.i64.wrap (m : Int) = 0 ↔ m = 0 := by
  rw [IntKind.wrap_i64]
  omega
theorem wrap_bv (m : Nat) (_hm : m < 18446744073709551616) : bv (IntKind.i64.wrap (m : Int)) = BitVec.ofNat 64 m := by
  apply BitVec.eq_of_toNat_eq
  rw [bv_toNat, BitVec.toNat_ofNat, IntKind.wrap_i64]
  omega
def opOf (op : BinOp) (x y : BitVec 64) : BitVec 64 := match op with | .and => x &&& y | .or => x ||| y | .xor => x ^^^ y | _ => x &&& ~~~y
theorem bits_eq (op : BinOp) (a b : Int) : bits op .i64 a b = IntKind.i64.wrap ((opOf op (bv a) (bv b)).toNat : Int) := by
  unfold bits opOf bv
  cases op <;> rfl
theorem bits_bv (op : BinOp) (a b : Int) : bv (bits op .i64 a b) = opOf op (bv a) (bv b) := by
  rw [bits_eq, wrap_bv _ (opOf op (bv a) (bv b)).isLt, BitVec.ofNat_toNat, BitVec.setWidth_eq]
theorem bits_zero (op : BinOp) (a b : Int) : bits op .i64 a b = 0 ↔ opOf op (bv a) (bv b) = 0 := by
  rw [bits_eq, wrap_zero _ (opOf op (bv a) (bv b)).isLt]
  constructor
  · intro h; apply BitVec.eq_of_toNat_eq; rw [h]; rfl
  · intro h; rw [h]; rfl
theorem bv_zero_iff (x : BitVec 64) : x = 0 ↔ ∀ i, i < 64 → x.getLsbD i = false := by
  constructor
  · rintro rfl i _; simp
  · intro h; apply BitVec.eq_of_getLsbD_eq; intro i hi; rw [h i hi]; simp
theorem andNot_zero (a b : Int) : bits .andNot .i64 a b = 0 ↔ ∀ i, i < 64 → bt64 a i = true → bt64 b i = true := by
  rw [bits_zero, bv_zero_iff]
  constructor
  · intro h i hi ha
    have := h i hi
    simp only [opOf, BitVec.getLsbD_and, BitVec.getLsbD_not, hi, decide_true, Bool.true_and] at this
    unfold bt64 at ha ⊢
    rw [ha] at this
    simpa using this
  · intro h i hi
    have := h i hi
    simp only [opOf, BitVec.getLsbD_and, BitVec.getLsbD_not, hi, decide_true, Bool.true_and]
    unfold bt64 at this
    cases hc : (bv a).getLsbD i with
    | false => rfl
    | true => rw [this hc]; rfl
theorem or_bit (a b : Int) (i : Nat) : bt64 (bits .or .i64 a b) i = (bt64 a i || bt64 b i) := by
  unfold bt64
  rw [bits_bv]
  simp [opOf]
theorem and_zero (a b : Int) : bits .and .i64 a b = 0 ↔ ∀ i, i < 64 → bt64 a i = true → bt64 b i = false := by
  rw [bits_zero, bv_zero_iff]
  constructor
  · intro h i hi ha
    have := h i hi
    simp only [opOf, BitVec.getLsbD_and] at this
    unfold bt64 at ha ⊢
    rw [ha] at this
    simpa using this
  · intro h i hi
    have := h i hi
    simp only [opOf, BitVec.getLsbD_and]
    unfold bt64 at this
    cases hc : (bv a).getLsbD i with
    | false => rfl
    | true => rw [this hc]; rfl
theorem and_one (x : Int) : (bits .and .i64 x 1 == 1) = decide (x % 2 = 1) := by
  rw [bits_eq]
  have h1 : (opOf .and (bv x) (bv 1)).toNat = (x % 18446744073709551616).toNat % 2 := by
    show (bv x &&& bv 1).toNat = _
    rw [BitVec.toNat_and, bv_toNat, bv_toNat]
    exact Nat.and_one_is_mod _
  rw [h1, IntKind.wrap_i64]
  rw [Bool.eq_iff_iff, beq_iff_eq, decide_eq_true_iff]
  omega
theorem shr_bit (a : Int) (i : Nat) (hi : i < 64) : (bits .and .i64 (shr .i64 a (IntKind.u64.wrap ((i : Nat) : Int))) 1 == 1) = bt64 a i := by
  rw [and_one, bt64_eq a i hi]
  have h : IntKind.u64.wrap ((i : Nat) : Int) = (i : Int) := by simp [IntKind.wrap, IntKind.bits, IntKind.signed]; omega
  rw [h]
  unfold shr
  rw [Int.toNat_natCast, Nat.min_eq_left (by simp [IntKind.bits]; omega)]
end Go.Proofs.Ytilfalpfanaanaa.BitsLaw

namespace Go.Proofs.Ytilfalpfanaanaa.PA
open Go.RowKit Go.Proofs.YtilfalpfanaanaaW.PrintWords Go.Proofs.YtilfalpfanaanaaW.PrintLast Go.Proofs.YtilfalpfanaanaaW.PrintMore Go.Proofs.Ytilfalpfanaanaa.BitsLaw
theorem bit_eq (a : Int) (i : Nat) (hi : i < 64) : purlieuref02_bit.f a ((i : Nat) : Int) = some (bt64 a i) := by
  unfold purlieuref02_bit.f
  have h : IntKind.u64.wrap ((i : Nat) : Int) = (i : Int) := by simp [IntKind.wrap, IntKind.bits, IntKind.signed]; omega
  rw [if_pos (by rw [h]; omega), shr_bit a i hi]
def bad1 (o m : Int) (i : Nat) : Bool := (decide (i < 3) || decide (6 < i)) && (bt64 o i || bt64 m i)
def bad2 (o m : Int) (i : Nat) : Bool := bt64 m i && !bt64 o i
def anyFrom (p : Nat → Bool) : Nat → Nat → Bool
  | 0, _ => false
  | d + 1, i => p i || anyFrom p d (i + 1)
theorem anyFrom_iff (p : Nat → Bool) : ∀ d i, anyFrom p d i = true ↔ ∃ j, i ≤ j ∧ j < i + d ∧ p j = true := by
  intro d
  induction d with
  | zero =>
    intro i
    simp only [anyFrom, Bool.false_eq_true, false_iff]
    rintro ⟨j, h1, h2, _⟩
    omega
  | succ d ih =>
    intro i
    simp only [anyFrom, Bool.or_eq_true, ih]
    constructor
    · rintro (h | ⟨j, h1, h2, h3⟩)
      · exact ⟨i, Nat.le_refl _, by omega, h⟩
      · exact ⟨j, by omega, by omega, h3⟩
    · rintro ⟨j, h1, h2, h3⟩
      rcases Nat.eq_or_lt_of_le h1 with rfl | h
      · exact .inl h3
      · exact .inr ⟨j, h, by omega, h3⟩
def maskV (o m : Int) : Int × Int := if anyFrom (bad1 o m) 64 0 = true then (0, 22) else if anyFrom (bad2 o m) 64 0 = true then (0, 93) else (m, 0)
theorem mask_l1 (o m : Int) : ∀ (d k i : Nat), i + d = 64 → d < k → purlieuref02_Mask.l1 k o m ((i : Nat) : Int) = some (if anyFrom (bad2 o m) d i = true then (0, 93) else (m, 0)) := by
  intro d
  induction d with
  | zero =>
    intro k i hi hk
    obtain ⟨k, rfl⟩ : ∃ j, k = j + 1 := ⟨k - 1, by omega⟩
    simp only [purlieuref02_Mask.l1]
    rw [if_neg (by omega), if_neg (by simp [anyFrom])]
  | succ d ih =>
    intro k i hi hk
    obtain ⟨k, rfl⟩ : ∃ j, k = j + 1 := ⟨k - 1, by omega⟩
    have step := ih k (i + 1) (by omega) (by omega)
    simp only [purlieuref02_Mask.l1]
    rw [if_pos (by omega), bit_eq m i (by omega), bit_eq o i (by omega), wrap_step (by omega), step]
    simp only [Option.bind_some, anyFrom, bad2]
    by_cases hbm : bt64 m i = true <;> by_cases hbo : bt64 o i = true <;> simp [hbm, hbo]
theorem mask_l0 (o m : Int) (t : Int × Int) (ht : ∀ k, 64 < k → purlieuref02_Mask.l1 k o m 0 = some t) : ∀ (d k i : Nat), i + d = 64 → d + 66 < k → purlieuref02_Mask.l0 k o m ((i : Nat) : Int) = some (if anyFrom (bad1 o m) d i = true then (0, 22) else t) := by
  intro d
  induction d with
  | zero =>
    intro k i hi hk
    obtain ⟨k, rfl⟩ : ∃ j, k = j + 1 := ⟨k - 1, by omega⟩
    simp only [purlieuref02_Mask.l0]
    rw [if_neg (by omega), ht k (by omega), show anyFrom (bad1 o m) 0 i = false from rfl]
    rfl
  | succ d ih =>
    intro k i hi hk
    obtain ⟨k, rfl⟩ : ∃ j, k = j + 1 := ⟨k - 1, by omega⟩
    have step := ih k (i + 1) (by omega) (by omega)
    have ha : anyFrom (bad1 o m) (d + 1) i = (bad1 o m i || anyFrom (bad1 o m) d (i + 1)) := rfl
    simp only [purlieuref02_Mask.l0]
    rw [if_pos (by omega), bit_eq m i (by omega), bit_eq o i (by omega), wrap_step (by omega), step, ha]
    simp only [Option.bind_some, bad1]
    by_cases h3 : i < 3
    · have h3' : (i : Int) < 3 := by omega
      by_cases hbm : bt64 m i = true <;> by_cases hbo : bt64 o i = true <;> simp [hbm, hbo, h3, h3']
    · have h3' : ¬ (i : Int) < 3 := by omega
      by_cases h6 : 6 < i
      · have h6' : (i : Int) > 6 := by omega
        by_cases hbm : bt64 m i = true <;> by_cases hbo : bt64 o i = true <;> simp [hbm, hbo, h3, h3', h6, h6']
      · have h6' : ¬ (i : Int) > 6 := by omega
        rw [if_neg h3', if_neg h6']
        simp [h3, h6]
theorem rmask_eq (o m : Int) (k : Nat) (hk : 130 < k) : purlieuref02_Mask.f k o m = some (maskV o m) := by
  unfold purlieuref02_Mask.f maskV
  exact mask_l0 o m _ (fun k hk => mask_l1 o m 64 k 0 (by omega) hk) 64 k 0 (by omega) (by omega)
theorem bit120 : ∀ i, i < 64 → (bt64 120 i = true ↔ ¬ (i < 3 ∨ 6 < i)) := by
  intro i hi
  have h : ∀ i : Fin 64, (bt64 120 i.val = true ↔ ¬ (i.val < 3 ∨ 6 < i.val)) := by decide +kernel
  exact h ⟨i, hi⟩
theorem mask_eq (o m : Int) : white_Mask.f o m = some (maskV o m) := by
  unfold white_Mask.f maskV
  have h1 : bits .andNot .i64 (bits .or .i64 o m) 120 = 0 ↔ ¬ anyFrom (bad1 o m) 64 0 = true := by
    rw [andNot_zero, anyFrom_iff]
    constructor
    · rintro h ⟨j, _, hj, hb⟩
      simp only [bad1, Bool.and_eq_true, Bool.or_eq_true, decide_eq_true_iff] at hb
      have := h j (by omega) (by rw [or_bit]; simpa using hb.2)
      exact (bit120 j (by omega)).1 this hb.1
    · intro h i hi hb
      rw [bit120 i hi]
      intro hc
      apply h
      refine ⟨i, Nat.zero_le _, by omega, ?_⟩
      simp only [bad1, Bool.and_eq_true, Bool.or_eq_true, decide_eq_true_iff]
      exact ⟨hc, by rw [or_bit] at hb; simpa using hb⟩
  have h2 : bits .andNot .i64 m o = 0 ↔ ¬ anyFrom (bad2 o m) 64 0 = true := by
    rw [andNot_zero, anyFrom_iff]
    constructor
    · rintro h ⟨j, _, hj, hb⟩
      simp only [bad2, Bool.and_eq_true, Bool.not_eq_true'] at hb
      rw [h j (by omega) hb.1] at hb
      exact absurd hb.2 (by simp)
    · intro h i hi hb
      cases hc : bt64 o i with
      | true => rfl
      | false =>
        exfalso
        apply h
        exact ⟨i, Nat.zero_le _, by omega, by simp [bad2, hb, hc]⟩
  by_cases c1 : anyFrom (bad1 o m) 64 0 = true
  · rw [if_neg (fun h => (h1.1 h) c1), if_pos c1]
  · rw [if_pos (h1.2 c1), if_neg c1]
    by_cases c2 : anyFrom (bad2 o m) 64 0 = true
    · rw [if_neg (fun h => (h2.1 h) c2), if_pos c2]
    · rw [if_pos (h2.2 c2), if_neg c2]
end Go.Proofs.Ytilfalpfanaanaa.PA

namespace Go.Proofs.Ytilfalpfanaanaa.PA
open Go.RowKit Go.Proofs.YtilfalpfanaanaaW.PrintWords Go.Proofs.YtilfalpfanaanaaW.PrintLast Go.Proofs.YtilfalpfanaanaaW.PrintMore
def kOf (acc : List Int) (x : Int) : Nat := (acc.takeWhile fun y => decide (y < x)).length
def rIns (acc : List Int) (x : Int) : List Int := (acc.take (kOf acc x) ++ [x]) ++ acc.drop (kOf acc x)
def rmake : List Int → List Int → Option (List Int)
  | acc, [] => some acc
  | acc, x :: r => if x < 0 then none else if acc.contains x = true then rmake acc r else if 32 < (rIns acc x).length then none else rmake (rIns acc x) r
def purlieuref02_Make.f (l0 : List Int) : Option (Bool × List Int × Int) :=
  if l0.length * 8 ≤ 140737488355328 then (match rmake [] l0 with | some a => some (false, a, 0) | none => some (false, [], 22)) else none
theorem kOf_le (acc : List Int) (x : Int) : kOf acc x ≤ acc.length := by
  unfold kOf
  exact (List.takeWhile_prefix _).length_le
theorem kOf_lt (acc : List Int) (x : Int) (j : Nat) (h : j < kOf acc x) : acc.getD j 0 < x := by
  have hl := kOf_le acc x
  have hp := List.takeWhile_prefix (p := fun y => decide (y < x)) (l := acc)
  have h1 : (acc.takeWhile fun y => decide (y < x))[j]'h = acc[j] := hp.getElem h
  rw [gd (by omega), ← h1]
  have := List.all_takeWhile (l := acc) (p := fun y => decide (y < x))
  rw [List.all_eq_true] at this
  simpa using this _ (List.getElem_mem h)
theorem kOf_at (acc : List Int) (x : Int) (h : kOf acc x < acc.length) : ¬ acc.getD (kOf acc x) 0 < x := by
  unfold kOf at h ⊢
  induction acc with
  | nil => simp at h
  | cons a r ih =>
    by_cases ha : a < x
    · simp only [List.takeWhile_cons, ha, decide_true, if_true, List.length_cons] at h ⊢
      simpa using ih (by omega)
    · simp [List.takeWhile_cons, ha]
theorem take_C {w : World} {A : Option Addr} {acc : List Int} {k : Nat} (h : Kd.C (Kd.int .i64) w A acc.length acc) (hk : k ≤ acc.length) : ∀ w', Below w.heap.size w w' → Kd.C (Kd.int .i64) w' A k (acc.take k) := by
  intro w' hb
  have := Kd.C_take (m := k) (Kd.C_below h hb) hk
  rwa [List.length_take, Nat.min_eq_left hk] at this
theorem drop_C {w : World} {A : Option Addr} {acc : List Int} {k c : Nat} (h : Kd.C (Kd.int .i64) w A acc.length acc) (hk : k ≤ acc.length) (hc : acc.length ≤ c) : ∀ w', Below w.heap.size w w' → Kd.C (Kd.int .i64) w' (if c = k then A else A.map fun x => x.add k) (acc.length - k) (acc.drop k) := by
  intro w' hb
  have := Kd.C_drop (m := k) (Kd.C_below h hb) hk hc
  rw [List.length_drop] at this
  simpa [show (Kd.int .i64).sz = 1 from rfl] using this
set_option maxHeartbeats 4000000 in
set_option maxRecDepth 100000 in
theorem purlieuref02_Make.calls (A0 : Option Addr) (c0 : Nat) (l0 : List Int) (r1 : Bool) (r2 : List Int) (r3 : Int) (w : World) (hr0 : Kd.C (Kd.int .i64) w A0 l0.length l0) (hc0 : l0.length ≤ c0) (h : purlieuref02_Make.f l0 = some (r1, r2, r3)) :
    Calls Try.prog 68 #[.slice A0 l0.length c0] w fun e w' => ∃ v1_ : Value, e = .returned (.tuple #[.agg #[.bool r1, v1_], .int .i64 r3]) ∧ Kd.R (Kd.int .i64) 3 w' w.heap.size (fun _ => True) v1_ r2 ∧ Below w.heap.size w w' := by
  have hu := Try.underlying26
  unfold purlieuref02_Make.f at h
  by_cases hn : l0.length * 8 ≤ 140737488355328
  case neg => rw [if_neg hn] at h; cases h
  rw [if_pos hn] at h
  have HR0 := Aside0.mk hr0
  have HN := Aside0.mk hn
  have HF := Aside0.mk (show (match rmake [] (l0.drop (0 : Int).toNat) with | some a => some (false, a, (0 : Int)) | none => some (false, [], (22 : Int))) = some (r1, r2, r3) from h)
  clear hr0 hn h hc0
  go_enter Try.func68, Try.ntmps68
  go_wp2_with (first
    | ((with_reducible refine gate_dst (N := 2) rfl ?_); refine box_event ?hg (N := 2) ?hd (cs := #[.bool false, .slice none 0 0]) (t := 26) ?hr ?_; (case hd => rfl); (case hg => rfl); (case hr => first | (go_simp; done) | (go_simp; rfl)); intro g2 hg w1 BK hb; have BK2 := Aside0.mk BK; have HB1 := Aside0.mk hb; have GE2 := Aside0.mk (show w.heap.size ≤ g2 from Nat.le_of_eq hg.symm); clear BK hb hg)
    | ((with_reducible refine gate_dst (N := 4) rfl ?_); refine box_event ?hg (N := 4) ?hd (cs := #[.bool false, .slice none 0 0]) (t := 26) ?hr ?_; (case hd => rfl); (case hg => rfl); (case hr => first | (go_simp; done) | (go_simp; rfl)); intro g4 hg w2 BK hb; have BK4 := Aside0.mk BK; have HB2 := Aside0.mk (below_step HB1.out hb); have BK2b := Aside0.mk (blk_below BK2.out hb); have GE4 := Aside0.mk (show w.heap.size ≤ g4 by rw [hg]; exact HB1.out.size); have n24 := Nat.ne_of_lt (blk_lt BK2.out); rw [← hg] at n24; clear BK hb hg; have hcza0 := (blk_cell BK4.out 0).trans rfl; have hcza1 := (blk_cell BK4.out 1).trans rfl; have hfza0 := blk_frozen BK4.out 0; have hfza1 := blk_frozen BK4.out 1))
  go_loopg [5, 6] l0.length (fun kq v5 v6 wr => ∃ (i : Int) (acc : List Int) (u : Value), v5 = .int .i64 i ∧ Aside0 (0 ≤ i ∧ i + kq = l0.length ∧ acc.length ≤ 32) ∧ Aside0 ((match rmake acc (l0.drop i.toNat) with | some a => some (false, a, (0 : Int)) | none => some (false, [], (22 : Int))) = some (r1, r2, r3)) ∧ Aside0 (Kd.R (Kd.int .i64) 3 wr w.heap.size (fun _ => True) u acc) ∧ Aside0 (wr.heap[g2]? = some (.cells #[.bool false, .slice none 0 0] 26 (0, 0))) ∧ Aside0 (wr.heap[g4]? = some (.cells #[.bool false, u] 26 (0, 0))) ∧ Aside0 (Below w.heap.size w wr))
  case atStart => exact ⟨0, [], .slice none 0 0, rfl, ⟨by simp⟩, HF, ⟨Kd.R_nil _ _ _ _ _⟩, ⟨blk_far (p := ⟨g4, 1, none⟩) (blk_far (p := ⟨g4, 0, none⟩) BK2b.out n24 _) n24 _⟩, ⟨blk_put (cs := #[.bool false, .slice none 0 0]) (blk_put (cs := #[.bool false, .slice none 0 0]) BK4.out 0 (.bool false) rfl) 1 (.slice none 0 0) rfl⟩, ⟨below_set (below_set HB2.out GE4.out) GE4.out⟩⟩
  case round =>
    rename World => wo
    rename Nat => ko
    clear hcza0 hcza1 hfza0 hfza1 HF
    obtain ⟨i, acc, u, rfl, HK, HF, HO, BK2r, BK4r, HB⟩ := hrel
    obtain ⟨Au, cu, eu⟩ := Kd.R_slice HO.out
    subst eu
    have hcza0 : wo.cell? ⟨g4, 0, none⟩ = some (.bool false) := (blk_cell BK4r.out 0).trans rfl
    have hcza1 : wo.cell? ⟨g4, 1, none⟩ = some (.slice Au acc.length cu) := (blk_cell BK4r.out 1).trans rfl
    have hczb0 : wo.cell? ⟨g2, 0, none⟩ = some (.bool false) := (blk_cell BK2r.out 0).trans rfl
    have hczb1 : wo.cell? ⟨g2, 1, none⟩ = some (.slice none 0 0) := (blk_cell BK2r.out 1).trans rfl
    have hfzb0 := blk_frozen BK2r.out 0
    have hfzb1 := blk_frozen BK2r.out 1
    by_cases hlt : i < (l0.length : Int)
    · have c0_ : decide (i < (l0.length : Int)) = true := decide_eq_true hlt
      obtain ⟨h0, h1, h2⟩ := HK.out
      obtain ⟨ad, ead, hx⟩ := Kd.at_int HR0.out i h0 hlt
      cases ead
      replace hx := (HB.out.cell (World.block_lt_of_cell? w _ hx)).trans hx
      have HX := Aside0.mk (And.intro h0 (And.intro h1 (And.intro hlt h2)))
      have HD := Aside0.mk (show l0.drop i.toNat = rd l0 i :: l0.drop (i + 1).toNat by
        rw [List.drop_eq_getElem_cons (show i.toNat < l0.length by omega), show (i + 1).toNat = i.toNat + 1 by omega]
        show _ = l0.getD i.toNat 0 :: _
        rw [gd (by omega)])
      have q0 := eq_true hlt
      have hx7 : i < 9223372036854775807 := by have := HN.out; omega
      have hx0 := h0
      rw [HD.out] at HF
      have hi1 : i < (l0.length : Int) := hlt
      clear h0 h1 hlt h2
      obtain ⟨x, hxx⟩ : ∃ x, x = rd l0 i := ⟨_, rfl⟩
      rw [← hxx] at hx HF HD
      have HXX := Aside0.mk hxx
      clear hxx
      by_cases hneg : x < 0
      · have cn : decide (x < 0) = true := decide_eq_true hneg
        go_wp2_with fail
        rw [show rmake acc (x :: l0.drop (i + 1).toNat) = none by rw [rmake, if_pos hneg]] at HF
        obtain ⟨rfl, rfl, rfl⟩ : r1 = false ∧ r2 = [] ∧ r3 = 22 := by
          have := HF.out
          simp only [Option.some.injEq, Prod.mk.injEq] at this
          exact ⟨this.1.symm, this.2.1.symm, this.2.2.symm⟩
        refine bodyPost_ret (results_ct rfl _ _ g2 26 #[.bool false, .slice none 0 0] (0, 0) _ rfl (blk_put (cs := #[.bool false, .slice none 0 0]) (blk_put (cs := #[.bool false, .slice none 0 0]) BK2r.out 0 (.bool false) rfl) 1 (.slice none 0 0) rfl) Try.underlying26 rfl (by kernel_rfl)) rfl ?_
        exact ⟨_, rfl, Kd.R_nil _ _ _ _ _, below_set (below_set HB.out GE2.out) GE2.out⟩
      · have cn : decide (x < 0) = false := decide_eq_false hneg
        have HNeg := Aside0.mk hneg
        clear hneg
        obtain ⟨ct, hct⟩ : ∃ ct, ct = acc.contains x := ⟨_, rfl⟩
        have HIn := Aside0.mk (rin_eq acc x (by have := HX.out; omega) (acc.length + 1) (by omega))
        rw [← hct] at HIn
        have HCt := Aside0.mk hct
        clear hct
        go_wp2_with fail
        have HCall : Aside0 (∀ n, Calls Try.prog 67 #[.slice Au acc.length cu, .int .i64 x] (wo.drewN n) fun e w'' => e = .returned (.bool ct) ∧ ∃ m, w'' = wo.drewN m) := ⟨fun n => Calls.quiet_of ((purlieuref02_In.calls (acc.length + 1) Au cu acc x ct _ (Kd.C_drewN (R_C HO.out).2 n) (R_C HO.out).1 HIn.out).mono fun e w' h => ⟨h.1, h.2.out⟩)⟩
        go_quiet ((go_at_call 67; exact HCall.out _))
        cases ct with
        | true =>
          rw [show rmake acc (x :: l0.drop (i + 1).toNat) = rmake acc (l0.drop (i + 1).toNat) by rw [rmake, if_neg (by have := HNeg.out; omega), ← HCt.out, if_pos rfl]] at HF
          go_wp2_with fail
          go_roundg (ko - 1)
          case measure => have := HX.out; omega
          case rel => exact ⟨i + 1, acc, _, by go_num, ⟨by have := HX.out; omega⟩, HF, ⟨by (with_reducible repeat (first | apply Kd.R_drewN | apply Kd.R_drew)); exact HO.out⟩, ⟨by (with_reducible repeat (first | refine blk_drewN ?_ _ | refine blk_drew ?_)); exact BK2r.out⟩, ⟨by (with_reducible repeat (first | refine blk_drewN ?_ _ | refine blk_drew ?_)); exact BK4r.out⟩, ⟨by repeat (first | exact HB.out | apply pw_below_drewN | apply below_drew1)⟩⟩
        | false =>
          go_wp2_with fail
          go_loopg [6] acc.length (fun kq v6 wr => ∃ j : Nat, v6 = .int .i64 (j : Int) ∧ Aside0 (j ≤ kOf acc x ∧ j + kq = acc.length) ∧ Aside0 (Below wo.heap.size wo wr))
          case atStart => exact ⟨0, rfl, ⟨by omega⟩, ⟨by repeat (first | exact Below.refl _ _ | apply pw_below_drewN | apply below_drew1)⟩⟩
          case round =>
            obtain ⟨j, rfl, HJ, HBq⟩ := hrel
            have L4 := Aside0.mk (Nat.lt_of_lt_of_le (blk_lt BK4r.out) HBq.out.size)
            have LA := Aside0.mk (show (ad.add i.toNat).block < wr.heap.size from Nat.lt_of_lt_of_le (World.block_lt_of_cell? wo _ hx) HBq.out.size)
            have hc4 : wr.cell? ⟨g4, 1, none⟩ = some (.slice Au acc.length cu) := (HBq.out.cell (blk_lt BK4r.out)).trans hcza1
            replace hx : wr.cell? (ad.add i.toNat) = some (.int .i64 x) := (HBq.out.cell (World.block_lt_of_cell? wo _ hx)).trans hx
            clear hcza0 hcza1 hczb0 hczb1 hfzb0 hfzb1
            have hkl := kOf_le acc x
            by_cases hj : j < acc.length
            · have cj : decide ((j : Int) < (acc.length : Int)) = true := decide_eq_true (by omega)
              have hj0 : (0 : Int) ≤ (j : Int) := by omega
              have hj1 : (j : Int) < (acc.length : Int) := by omega
              obtain ⟨ad2, ead2, hy⟩ := Kd.at_int (R_C HO.out).2 (j : Int) hj0 hj1
              cases ead2
              replace hy := (HBq.out.cell (World.block_lt_of_cell? wo _ hy)).trans hy
              simp only [Int.toNat_natCast] at hy
              have hjq := eq_true hj1
              by_cases hyx : rd acc (j : Int) < x
              · have cy : decide (rd acc (j : Int) < x) = true := decide_eq_true hyx
                have hjk : j + 1 ≤ kOf acc x := by
                  rcases Nat.lt_or_ge j (kOf acc x) with h | h
                  · exact h
                  · exfalso
                    have e : j = kOf acc x := by have := HJ.out; omega
                    subst e
                    exact kOf_at acc x hj hyx
                have HJ2 := Aside0.mk hjk
                clear hjk
                go_wp2_with fail
                go_quiet (fail)
                go_wp2_with fail
                go_roundg (gk - 1)
                case measure => have := HJ.out; omega
                case rel => exact ⟨j + 1, by rw [show wrap64 ((j : Int) + 1) = ((j + 1 : Nat) : Int) by (unfold wrap64; have := HX.out; omega)], ⟨by have := HJ.out; have := HJ2.out; omega⟩, ⟨by repeat (first | exact HBq.out | apply pw_below_drewN | apply below_drew1)⟩⟩
              · have cy : decide (rd acc (j : Int) < x) = false := decide_eq_false hyx
                obtain rfl : j = kOf acc x := by
                  rcases Nat.lt_or_ge j (kOf acc x) with h | h
                  · exact absurd (kOf_lt acc x j h) hyx
                  · have := HJ.out; omega
                rw [show rmake acc (x :: l0.drop (i + 1).toNat) = if 32 < (rIns acc x).length then none else rmake (rIns acc x) (l0.drop (i + 1).toNat) by rw [rmake, if_neg (by have := HNeg.out; omega), ← HCt.out, if_neg (by simp)]] at HF
                go_wp2_with fail
                go_quiet (fail)
                go_wp2_with fail
                have HBn := Aside0.mk (show Below wr.heap.size wr (wr.drewN nq).drew by repeat (first | exact Below.refl _ _ | apply pw_below_drewN | apply below_drew1))
                have HKL := Aside0.mk (kOf_le acc x)
                have HCa := Aside0.mk (Kd.C_below (R_C HO.out).2 HBq.out)
                have HCC := Aside0.mk (R_C HO.out).1
                have HLen := Aside0.mk (show acc.length ≤ 32 from HX.out.2.2.2)
                have hkc := eq_true (show kOf acc x ≤ cu by have := HCC.out; have := HKL.out; omega)
                have hka := eq_true (show kOf acc x ≤ acc.length from HKL.out)
                have HCu := Aside0.mk (take_C HCa.out HKL.out)
                have HCd := Aside0.mk (drop_C HCa.out HKL.out HCC.out)
                refine start_ (n := 19) (S := fun w' => w'.cell? ⟨g4, 1, none⟩ = some (.slice (some ad2) acc.length cu) ∧ w'.cell? (ad.add i.toNat) = some (.int .i64 x)) (ds := [18]) #[false, false, false, false, false, false, false, false, false, false, false, false, false, false, false, false, false, false, false] (by kernel_rfl) rfl rfl ⟨(HBn.out.cell L4.out).trans hc4, (HBn.out.cell LA.out).trans hx⟩ (fun hHeld => ?_)
                refine pure_ (i := 1) (N := some 47) (v := ?_) (a' := ?_) #[false, true, false, false, false, false, false, false, false, false, false, false, false, false, false, false, false, false, false] rfl rfl (by kernel_rfl) (fun _ _ _ h => h) (Or.inl ⟨by rfl, ?_⟩) ?_ ?_
                rotate_left
                · intro w'
                  go_simp
                  with_reducible rfl
                rotate_left
                · simp only [Act.put, List.setIfInBounds_toArray, List.set_cons_zero, List.set_cons_succ, i64_w, i32_w]
                  rfl
                refine pure_ (i := 3) (N := some 49) (v := ?_) (a' := ?_) #[false, true, false, true, false, false, false, false, false, false, false, false, false, false, false, false, false, false, false] rfl rfl (by kernel_rfl) (fun _ _ _ h => h) (Or.inl ⟨by rfl, ?_⟩) ?_ ?_
                rotate_left
                · intro w'
                  go_simp
                  with_reducible rfl
                rotate_left
                · simp only [Act.put, List.setIfInBounds_toArray, List.set_cons_zero, List.set_cons_succ, i64_w, i32_w]
                  rfl
                refine pure_ (i := 6) (N := some 52) (v := ?_) (a' := ?_) #[false, true, false, true, false, false, true, false, false, false, false, false, false, false, false, false, false, false, false] rfl rfl (by kernel_rfl) (fun _ _ _ h => h) (Or.inl ⟨by rfl, ?_⟩) ?_ ?_
                rotate_left
                · intro w'
                  go_simp
                  with_reducible rfl
                rotate_left
                · simp only [Act.put, List.setIfInBounds_toArray, List.set_cons_zero, List.set_cons_succ, i64_w, i32_w]
                  rfl
                refine pure_ (i := 7) (N := some 53) (v := ?_) (a' := ?_) #[false, true, false, true, false, false, true, true, false, false, false, false, false, false, false, false, false, false, false] rfl rfl (by kernel_rfl) (fun _ _ _ h => h) (Or.inl ⟨by rfl, ?_⟩) ?_ ?_
                rotate_left
                · intro w'
                  go_simp
                  with_reducible rfl
                rotate_left
                · simp only [Act.put, List.setIfInBounds_toArray, List.set_cons_zero, List.set_cons_succ, i64_w, i32_w]
                  rfl
                refine pure_ (i := 8) (N := some 54) (v := ?_) (a' := ?_) #[false, true, false, true, false, false, true, true, true, false, false, false, false, false, false, false, false, false, false] rfl rfl (by kernel_rfl) (fun _ _ _ h => h) (Or.inl ⟨by rfl, ?_⟩) ?_ ?_
                rotate_left
                · intro w'
                  go_simp
                  with_reducible rfl
                rotate_left
                · simp only [Act.put, List.setIfInBounds_toArray, List.set_cons_zero, List.set_cons_succ, i64_w, i32_w]
                  rfl
                refine pure_ (i := 12) (N := some 58) (v := ?_) (a' := ?_) #[false, true, false, true, false, false, true, true, true, false, false, false, true, false, false, false, false, false, false] rfl rfl (by kernel_rfl) (fun _ _ _ h => h) (Or.inl ⟨by rfl, ?_⟩) ?_ ?_
                rotate_left
                · intro w'
                  go_simp
                  with_reducible rfl
                rotate_left
                · simp only [Act.put, List.setIfInBounds_toArray, List.set_cons_zero, List.set_cons_succ, i64_w, i32_w]
                  rfl
                refine pure_ (i := 14) (N := some 60) (v := ?_) (a' := ?_) #[false, true, false, true, false, false, true, true, true, false, false, false, true, false, true, false, false, false, false] rfl rfl (by kernel_rfl) (fun _ _ _ h => h) (Or.inl ⟨by rfl, ?_⟩) ?_ ?_
                rotate_left
                · intro w'
                  go_simp
                  with_reducible rfl
                rotate_left
                · simp only [Act.put, List.setIfInBounds_toArray, List.set_cons_zero, List.set_cons_succ, i64_w, i32_w]
                  rfl
                refine take_ (i := 2) (N := some 48) (v := ?_) (a' := ?_) #[false, true, true, true, false, false, true, true, true, false, false, false, true, false, true, false, false, false, false] rfl rfl (by kernel_rfl) (fun _ _ _ h => h) (Or.inl ⟨by rfl, ?_⟩) hHeld ?_ ?_
                rotate_left
                · rintro w' ⟨s0, s1⟩
                  go_simp
                  with_reducible rfl
                rotate_left
                · simp only [Act.put, List.setIfInBounds_toArray, List.set_cons_zero, List.set_cons_succ, i64_w, i32_w]
                  rfl
                refine pure_ (i := 4) (N := some 50) (v := ?_) (a' := ?_) #[false, true, true, true, true, false, true, true, true, false, false, false, true, false, true, false, false, false, false] rfl rfl (by kernel_rfl) (fun _ _ _ h => h) (Or.inl ⟨by rfl, ?_⟩) ?_ ?_
                rotate_left
                · intro w'
                  go_simp
                  with_reducible rfl
                rotate_left
                · simp only [Act.put, List.setIfInBounds_toArray, List.set_cons_zero, List.set_cons_succ, i64_w, i32_w]
                  rfl
                refine take_ (i := 9) (N := some 55) (v := ?_) (a' := ?_) #[false, true, true, true, true, false, true, true, true, true, false, false, true, false, true, false, false, false, false] rfl rfl (by kernel_rfl) (fun _ _ _ h => h) (Or.inl ⟨by rfl, ?_⟩) hHeld ?_ ?_
                rotate_left
                · rintro w' ⟨s0, s1⟩
                  go_simp
                  with_reducible rfl
                rotate_left
                · simp only [Act.put, List.setIfInBounds_toArray, List.set_cons_zero, List.set_cons_succ, i64_w, i32_w]
                  rfl
                refine take_ (i := 13) (N := some 59) (v := ?_) (a' := ?_) #[false, true, true, true, true, false, true, true, true, true, false, false, true, true, true, false, false, false, false] rfl rfl (by kernel_rfl) (fun _ _ _ h => h) (Or.inl ⟨by rfl, ?_⟩) hHeld ?_ ?_
                rotate_left
                · rintro w' ⟨s0, s1⟩
                  go_simp
                  with_reducible rfl
                rotate_left
                · simp only [Act.put, List.setIfInBounds_toArray, List.set_cons_zero, List.set_cons_succ, i64_w, i32_w]
                  rfl
                refine pure_ (i := 15) (N := some 61) (v := ?_) (a' := ?_) #[false, true, true, true, true, false, true, true, true, true, false, false, true, true, true, true, false, false, false] rfl rfl (by kernel_rfl) (fun _ _ _ h => h) (Or.inl ⟨by rfl, ?_⟩) ?_ ?_
                rotate_left
                · intro w'
                  go_simp
                  with_reducible rfl
                rotate_left
                · simp only [Act.put, List.setIfInBounds_toArray, List.set_cons_zero, List.set_cons_succ, i64_w, i32_w]
                  rfl
                refine join_ (σ := Value × Value × Value) 4 #[true, true, true, true, true, true, true, true, true, true, true, false, true, true, true, true, false, false, false] (fun s => [(46, s.1), (51, s.2.1), (56, s.2.2)]) (fun s w' => Kd.R (Kd.int .i64) 3 w' wr.heap.size (fun _ => True) s.2.1 (acc.take (kOf acc x)) ∧ Kd.R (Kd.int .i64) 3 w' wr.heap.size (fun _ => True) s.2.2 [x] ∧ Below wr.heap.size wr w') ?_ ?_
                rotate_left
                · intro hCont
                  refine two_ (i := 0) (j := 10) (Ni := some 46) (Nj := some 56) #[true, true, true, true, true, false, true, true, true, true, false, false, true, true, true, true, false, false, false] #[false, true, true, true, true, false, true, true, true, true, true, false, true, true, true, true, false, false, false] rfl rfl rfl rfl (by kernel_rfl) (by decide) (by decide) (fun K hK => ?_) (fun K hK => ?_)
                  · skip
                    refine Kd.R_lit_step (Kd.int .i64) _ 3 ?hg (N := 46) ?hd (xs := ([] : List Int)) (inner := []) (ok := fun _ => True) (okp := fun _ => True) ?hr ?hp (fun _ hk => hk) trivial (Below.refl _ _) (Nat.le_refl _) (by simp) ?_
                    (case hd => rfl)
                    (case hg => rfl)
                    (case hr => first | (go_simp; done) | (go_simp; rfl))
                    (case hp => exact Reps.none _ _)
                    intro v46 w46 ho hb hg_ hnew_
                    clear hg_ hnew_
                    have m0_ := Aside0.mk (Kd.R_lower ho HBn.out.size)
                    have m1_ := Aside0.mk (below_step HBn.out hb)
                    try clear R0
                    try clear HBn
                    have R0 := m0_
                    have HBn := m1_
                    clear m0_ m1_
                    clear ho hb
                    refine hK.out _ _ ⟨(HBn.out.cell L4.out).trans hc4, (HBn.out.cell LA.out).trans hx⟩ (fun hHeld => ?_)
                    clear hK K
                    refine norm_ (a' := ?_) ?_ ?_
                    rotate_left
                    · show Act.put _ (some 46) _ = _
                      simp only [Act.put, List.setIfInBounds_toArray, List.set_cons_zero, List.set_cons_succ, i64_w, i32_w]
                      rfl
                    refine two_ (i := 5) (j := 10) (Ni := some 51) (Nj := some 56) #[true, true, true, true, true, true, true, true, true, true, false, false, true, true, true, true, false, false, false] #[true, true, true, true, true, false, true, true, true, true, true, false, true, true, true, true, false, false, false] rfl rfl rfl rfl (by kernel_rfl) (by decide) (by decide) (fun K hK => ?_) (fun K hK => ?_)
                    · skip
                      refine Kd.R_append_rows_step (Kd.int .i64) (w0 := wr) wr.heap.size (by rfl) (.tmp 46) (.tmp 50) 24 3 (.int .i64 0) 8 rfl Try.underlying24 info3 rfl (by decide) (by omega) v46 ([] : List Int) (acc.take (kOf acc x)) _ _ _ (fun _ => True) (fun _ => False) rfl rfl ?aO ?aR (fun _ _ h => h) (fun _ h => h.elim) ?aF ?aB ?aS ?aL ?_
                      (case aR => exact HCu.out _ HBn.out)
                      (case aB => exact HBn.out)
                      (case aF => exact (fun _ _ => trivial))
                      (case aO => exact R0.out)
                      (case aS => exact HBn.out.size)
                      (case aL => have := HLen.out; simp only [List.length_append, List.length_cons, List.length_nil, List.length_take, List.length_drop]; omega)
                      intro v51 w51 ho hb hg hat
                      rw [List.nil_append] at ho
                      have m0_ := Aside0.mk (ho)
                      have m1_ := Aside0.mk (hb)
                      try clear R1
                      try clear HBn
                      have R1 := m0_
                      have HBn := m1_
                      clear m0_ m1_
                      clear ho hb hg hat
                      refine hK.out _ _ ⟨(HBn.out.cell L4.out).trans hc4, (HBn.out.cell LA.out).trans hx⟩ (fun hHeld => ?_)
                      clear hK K
                      refine norm_ (a' := ?_) ?_ ?_
                      rotate_left
                      · show Act.put _ (some 51) _ = _
                        simp only [Act.put, List.setIfInBounds_toArray, List.set_cons_zero, List.set_cons_succ, i64_w, i32_w]
                        rfl
                      refine one_ (i := 10) (N := some 56) #[true, true, true, true, true, true, true, true, true, true, true, false, true, true, true, true, false, false, false] rfl rfl (by kernel_rfl) (by decide) (fun K hK => ?_)
                      refine Kd.R_lit_step (Kd.int .i64) _ 3 ?hg (N := 56) ?hd (xs := [x]) (inner := [.int .i64 x]) (ok := fun _ => True) (okp := fun _ => True) ?hr ?hp (fun _ hk => hk) trivial (Below.refl _ _) (Nat.le_refl _) (by simp) ?_
                      (case hd => rfl)
                      (case hg => rfl)
                      (case hr => first | (go_simp; done) | (go_simp; rfl))
                      (case hp => exact Reps.one rfl (Reps.none _ _))
                      intro v56 w56 ho hb hg_ hnew_
                      clear hg_ hnew_
                      have m0_ := Aside0.mk (Kd.R_lower ho HBn.out.size)
                      have m1_ := Aside0.mk (Kd.R_below R1.out hb)
                      have m2_ := Aside0.mk (below_step HBn.out hb)
                      try clear R2
                      try clear R1
                      try clear HBn
                      have R2 := m0_
                      have R1 := m1_
                      have HBn := m2_
                      clear m0_ m1_ m2_
                      clear ho hb
                      refine hK.out _ _ ⟨(HBn.out.cell L4.out).trans hc4, (HBn.out.cell LA.out).trans hx⟩ (fun hHeld => ?_)
                      clear hK K
                      refine norm_ (a' := ?_) ?_ ?_
                      rotate_left
                      · show Act.put _ (some 56) _ = _
                        simp only [Act.put, List.setIfInBounds_toArray, List.set_cons_zero, List.set_cons_succ, i64_w, i32_w]
                        rfl
                      exact norm_ (by simp only [putAll, Act.put, List.setIfInBounds_toArray, List.set_cons_zero, List.set_cons_succ]) (hCont (v46, v51, v56) _ ⟨R1.out, Kd.R_mono R2.out (fun _ _ => trivial), HBn.out⟩)
                    · skip
                      refine Kd.R_lit_step (Kd.int .i64) _ 3 ?hg (N := 56) ?hd (xs := [x]) (inner := [.int .i64 x]) (ok := fun _ => True) (okp := fun _ => True) ?hr ?hp (fun _ hk => hk) trivial (Below.refl _ _) (Nat.le_refl _) (by simp) ?_
                      (case hd => rfl)
                      (case hg => rfl)
                      (case hr => first | (go_simp; done) | (go_simp; rfl))
                      (case hp => exact Reps.one rfl (Reps.none _ _))
                      intro v56 w56 ho hb hg_ hnew_
                      clear hg_ hnew_
                      have m0_ := Aside0.mk (Kd.R_lower (Kd.R_new' ho (Kd.R_lt R0.out)) HBn.out.size)
                      have m1_ := Aside0.mk (Kd.R_below R0.out hb)
                      have m2_ := Aside0.mk (below_step HBn.out hb)
                      try clear R2
                      try clear R0
                      try clear HBn
                      have R2 := m0_
                      have R0 := m1_
                      have HBn := m2_
                      clear m0_ m1_ m2_
                      clear ho hb
                      refine hK.out _ _ ⟨(HBn.out.cell L4.out).trans hc4, (HBn.out.cell LA.out).trans hx⟩ (fun hHeld => ?_)
                      clear hK K
                      refine norm_ (a' := ?_) ?_ ?_
                      rotate_left
                      · show Act.put _ (some 56) _ = _
                        simp only [Act.put, List.setIfInBounds_toArray, List.set_cons_zero, List.set_cons_succ, i64_w, i32_w]
                        rfl
                      refine one_ (i := 5) (N := some 51) #[true, true, true, true, true, true, true, true, true, true, true, false, true, true, true, true, false, false, false] rfl rfl (by kernel_rfl) (by decide) (fun K hK => ?_)
                      refine Kd.R_append_rows_step (Kd.int .i64) (w0 := wr) wr.heap.size (by rfl) (.tmp 46) (.tmp 50) 24 3 (.int .i64 0) 8 rfl Try.underlying24 info3 rfl (by decide) (by omega) v46 ([] : List Int) (acc.take (kOf acc x)) _ _ _ (fun _ => True) (fun _ => False) rfl rfl ?aO ?aR (fun _ _ h => h) (fun _ h => h.elim) ?aF ?aB ?aS ?aL ?_
                      (case aR => exact HCu.out _ HBn.out)
                      (case aB => exact HBn.out)
                      (case aF => exact (fun _ _ => trivial))
                      (case aO => exact R0.out)
                      (case aS => exact HBn.out.size)
                      (case aL => have := HLen.out; simp only [List.length_append, List.length_cons, List.length_nil, List.length_take, List.length_drop]; omega)
                      intro v51 w51 ho hb hg hat
                      rw [List.nil_append] at ho
                      have m0_ := Aside0.mk (ho)
                      have m1_ := Aside0.mk (Kd.R_grown R2.out hg (fun _ hk => hk.2))
                      have m2_ := Aside0.mk (hb)
                      try clear R1
                      try clear R2
                      try clear HBn
                      have R1 := m0_
                      have R2 := m1_
                      have HBn := m2_
                      clear m0_ m1_ m2_
                      clear ho hb hg hat
                      refine hK.out _ _ ⟨(HBn.out.cell L4.out).trans hc4, (HBn.out.cell LA.out).trans hx⟩ (fun hHeld => ?_)
                      clear hK K
                      refine norm_ (a' := ?_) ?_ ?_
                      rotate_left
                      · show Act.put _ (some 51) _ = _
                        simp only [Act.put, List.setIfInBounds_toArray, List.set_cons_zero, List.set_cons_succ, i64_w, i32_w]
                        rfl
                      exact norm_ (by simp only [putAll, Act.put, List.setIfInBounds_toArray, List.set_cons_zero, List.set_cons_succ]) (hCont (v46, v51, v56) _ ⟨R1.out, Kd.R_mono R2.out (fun _ _ => trivial), HBn.out⟩)
                  · skip
                    refine Kd.R_lit_step (Kd.int .i64) _ 3 ?hg (N := 56) ?hd (xs := [x]) (inner := [.int .i64 x]) (ok := fun _ => True) (okp := fun _ => True) ?hr ?hp (fun _ hk => hk) trivial (Below.refl _ _) (Nat.le_refl _) (by simp) ?_
                    (case hd => rfl)
                    (case hg => rfl)
                    (case hr => first | (go_simp; done) | (go_simp; rfl))
                    (case hp => exact Reps.one rfl (Reps.none _ _))
                    intro v56 w56 ho hb hg_ hnew_
                    clear hg_ hnew_
                    have m0_ := Aside0.mk (Kd.R_lower ho HBn.out.size)
                    have m1_ := Aside0.mk (below_step HBn.out hb)
                    try clear R2
                    try clear HBn
                    have R2 := m0_
                    have HBn := m1_
                    clear m0_ m1_
                    clear ho hb
                    refine hK.out _ _ ⟨(HBn.out.cell L4.out).trans hc4, (HBn.out.cell LA.out).trans hx⟩ (fun hHeld => ?_)
                    clear hK K
                    refine norm_ (a' := ?_) ?_ ?_
                    rotate_left
                    · show Act.put _ (some 56) _ = _
                      simp only [Act.put, List.setIfInBounds_toArray, List.set_cons_zero, List.set_cons_succ, i64_w, i32_w]
                      rfl
                    refine one_ (i := 0) (N := some 46) #[true, true, true, true, true, false, true, true, true, true, true, false, true, true, true, true, false, false, false] rfl rfl (by kernel_rfl) (by decide) (fun K hK => ?_)
                    refine Kd.R_lit_step (Kd.int .i64) _ 3 ?hg (N := 46) ?hd (xs := ([] : List Int)) (inner := []) (ok := fun _ => True) (okp := fun _ => True) ?hr ?hp (fun _ hk => hk) trivial (Below.refl _ _) (Nat.le_refl _) (by simp) ?_
                    (case hd => rfl)
                    (case hg => rfl)
                    (case hr => first | (go_simp; done) | (go_simp; rfl))
                    (case hp => exact Reps.none _ _)
                    intro v46 w46 ho hb hg_ hnew_
                    clear hg_ hnew_
                    have m0_ := Aside0.mk (Kd.R_elder' R2.out (Kd.R_base ho) hb)
                    have m1_ := Aside0.mk (Kd.R_lower ho HBn.out.size)
                    have m2_ := Aside0.mk (below_step HBn.out hb)
                    try clear R2
                    try clear R0
                    try clear HBn
                    have R2 := m0_
                    have R0 := m1_
                    have HBn := m2_
                    clear m0_ m1_ m2_
                    clear ho hb
                    refine hK.out _ _ ⟨(HBn.out.cell L4.out).trans hc4, (HBn.out.cell LA.out).trans hx⟩ (fun hHeld => ?_)
                    clear hK K
                    refine norm_ (a' := ?_) ?_ ?_
                    rotate_left
                    · show Act.put _ (some 46) _ = _
                      simp only [Act.put, List.setIfInBounds_toArray, List.set_cons_zero, List.set_cons_succ, i64_w, i32_w]
                      rfl
                    refine one_ (i := 5) (N := some 51) #[true, true, true, true, true, true, true, true, true, true, true, false, true, true, true, true, false, false, false] rfl rfl (by kernel_rfl) (by decide) (fun K hK => ?_)
                    refine Kd.R_append_rows_step (Kd.int .i64) (w0 := wr) wr.heap.size (by rfl) (.tmp 46) (.tmp 50) 24 3 (.int .i64 0) 8 rfl Try.underlying24 info3 rfl (by decide) (by omega) v46 ([] : List Int) (acc.take (kOf acc x)) _ _ _ (fun _ => True) (fun _ => False) rfl rfl ?aO ?aR (fun _ _ h => h) (fun _ h => h.elim) ?aF ?aB ?aS ?aL ?_
                    (case aR => exact HCu.out _ HBn.out)
                    (case aB => exact HBn.out)
                    (case aF => exact (fun _ _ => trivial))
                    (case aO => exact R0.out)
                    (case aS => exact HBn.out.size)
                    (case aL => have := HLen.out; simp only [List.length_append, List.length_cons, List.length_nil, List.length_take, List.length_drop]; omega)
                    intro v51 w51 ho hb hg hat
                    rw [List.nil_append] at ho
                    have m0_ := Aside0.mk (ho)
                    have m1_ := Aside0.mk (Kd.R_grown R2.out hg (fun _ hk => hk.2))
                    have m2_ := Aside0.mk (hb)
                    try clear R1
                    try clear R2
                    try clear HBn
                    have R1 := m0_
                    have R2 := m1_
                    have HBn := m2_
                    clear m0_ m1_ m2_
                    clear ho hb hg hat
                    refine hK.out _ _ ⟨(HBn.out.cell L4.out).trans hc4, (HBn.out.cell LA.out).trans hx⟩ (fun hHeld => ?_)
                    clear hK K
                    refine norm_ (a' := ?_) ?_ ?_
                    rotate_left
                    · show Act.put _ (some 51) _ = _
                      simp only [Act.put, List.setIfInBounds_toArray, List.set_cons_zero, List.set_cons_succ, i64_w, i32_w]
                      rfl
                    exact norm_ (by simp only [putAll, Act.put, List.setIfInBounds_toArray, List.set_cons_zero, List.set_cons_succ]) (hCont (v46, v51, v56) _ ⟨R1.out, Kd.R_mono R2.out (fun _ _ => trivial), HBn.out⟩)
                rintro ⟨v46, v51, v56⟩ w56 ⟨r1, r2, hbn⟩
                clear HBn
                have R1 := Aside0.mk r1
                have R2 := Aside0.mk r2
                have HBn := Aside0.mk hbn
                clear r1 r2 hbn
                obtain ⟨A56, c56, e56⟩ := Kd.R_slice R2.out
                have hHeld : w56.cell? ⟨g4, 1, none⟩ = some (.slice (some ad2) acc.length cu) ∧ w56.cell? (ad.add i.toNat) = some (.int .i64 x) := ⟨(HBn.out.cell L4.out).trans hc4, (HBn.out.cell LA.out).trans hx⟩
                dsimp only at e56
                subst e56
                refine norm_ (a' := ?_) ?_ ?_
                rotate_left
                · simp only [putAll, Act.put, List.setIfInBounds_toArray, List.set_cons_zero, List.set_cons_succ]
                  rfl
                refine one_ (i := 11) (N := some 57) #[true, true, true, true, true, true, true, true, true, true, true, true, true, true, true, true, false, false, false] rfl rfl (by kernel_rfl) (by decide) (fun K hK => ?_)
                refine Kd.R_append_rows_step (Kd.int .i64) (w0 := wr) wr.heap.size (by rfl) (.tmp 51) (.tmp 56) 24 3 (.int .i64 0) 8 rfl Try.underlying24 info3 rfl (by decide) (by omega) v51 (acc.take (kOf acc x)) [x] _ _ _ (fun _ => True) (fun _ => False) rfl rfl ?aO ?aR (fun _ _ h => h) (fun _ h => h.elim) ?aF ?aB ?aS ?aL ?_
                (case aR => exact (R_C R2.out).2)
                (case aB => exact HBn.out)
                (case aF => exact (fun _ _ => trivial))
                (case aO => exact R1.out)
                (case aS => exact HBn.out.size)
                (case aL => have := HLen.out; simp only [List.length_append, List.length_cons, List.length_nil, List.length_take, List.length_drop]; omega)
                intro v57 w57 ho hb hg hat
                have m0_ := Aside0.mk (ho)
                have m1_ := Aside0.mk (hb)
                try clear R1
                try clear HBn
                have R1 := m0_
                have HBn := m1_
                clear m0_ m1_
                clear ho hb hg hat R2
                refine hK.out _ _ ⟨(HBn.out.cell L4.out).trans hc4, (HBn.out.cell LA.out).trans hx⟩ (fun hHeld => ?_)
                clear hK K
                refine norm_ (a' := ?_) ?_ ?_
                rotate_left
                · show Act.put _ (some 57) _ = _
                  simp only [Act.put, List.setIfInBounds_toArray, List.set_cons_zero, List.set_cons_succ, i64_w, i32_w]
                  rfl
                refine one_ (i := 16) (N := some 62) #[true, true, true, true, true, true, true, true, true, true, true, true, true, true, true, true, true, false, false] rfl rfl (by kernel_rfl) (by decide) (fun K hK => ?_)
                refine Kd.R_append_rows_step (Kd.int .i64) (w0 := wr) wr.heap.size (by rfl) (.tmp 57) (.tmp 61) 24 3 (.int .i64 0) 8 rfl Try.underlying24 info3 rfl (by decide) (by omega) v57 (acc.take (kOf acc x) ++ [x]) (acc.drop (kOf acc x)) _ _ _ (fun _ => True) (fun _ => False) rfl rfl ?aO ?aR (fun _ _ h => h) (fun _ h => h.elim) ?aF ?aB ?aS ?aL ?_
                (case aR => exact HCd.out _ HBn.out)
                (case aB => exact HBn.out)
                (case aF => exact (fun _ _ => trivial))
                (case aO => exact R1.out)
                (case aS => exact HBn.out.size)
                (case aL => have := HLen.out; simp only [List.length_append, List.length_cons, List.length_nil, List.length_take, List.length_drop]; omega)
                intro v62 w62 ho hb hg hat
                have m0_ := Aside0.mk ((show Kd.R (Kd.int .i64) 3 _ _ _ _ (rIns acc x) from ho))
                have m1_ := Aside0.mk (hb)
                try clear R1
                try clear HBn
                have R1 := m0_
                have HBn := m1_
                clear m0_ m1_
                clear ho hb hg hat
                obtain ⟨A62, c62, e62⟩ := Kd.R_slice R1.out
                subst e62
                refine hK.out _ _ ⟨(HBn.out.cell L4.out).trans hc4, (HBn.out.cell LA.out).trans hx⟩ (fun hHeld => ?_)
                clear hK K
                refine norm_ (a' := ?_) ?_ ?_
                rotate_left
                · show Act.put _ (some 62) _ = _
                  simp only [Act.put, List.setIfInBounds_toArray, List.set_cons_zero, List.set_cons_succ, i64_w, i32_w]
                  rfl
                refine pure_ (i := 17) (N := some 63) (v := ?_) (a' := ?_) #[true, true, true, true, true, true, true, true, true, true, true, true, true, true, true, true, true, true, false] rfl rfl (by kernel_rfl) (fun _ _ _ h => h) (Or.inl ⟨by rfl, ?_⟩) ?_ ?_
                rotate_left
                · intro w'
                  go_simp
                  with_reducible rfl
                rotate_left
                · simp only [Act.put, List.setIfInBounds_toArray, List.set_cons_zero, List.set_cons_succ, i64_w, i32_w]
                  rfl
                refine last_ (i := 18) (N := none) #[true, true, true, true, true, true, true, true, true, true, true, true, true, true, true, true, true, true, true] rfl rfl (by kernel_rfl) (by decide) (fun K hK => ?_)
                have hst : w62.cell? ⟨g4, 1, none⟩ = some (.slice (some ad2) acc.length cu) := (HBn.out.cell L4.out).trans hc4
                have hsf := blk_frozen (blk_below (blk_below BK4r.out HBq.out) HBn.out) 1
                refine skip_ (w1 := ?_) (by rfl) rfl ?_ ?_
                rotate_left
                · go_simp
                  rfl
                refine hK.out _ _ ?_
                clear hK K
                refine done_ (by kernel_rfl) ?_
                have hk1 := kOf_le acc x
                have BK4n := Aside0.mk (blk_below (blk_below BK4r.out HBq.out) HBn.out)
                have BK2n := Aside0.mk (blk_below (blk_below BK2r.out HBq.out) HBn.out)
                have HBw := Aside0.mk (show Below w.heap.size w w62 from below_step (below_step HB.out HBq.out) HBn.out)
                have BK4z := Aside0.mk (blk_put (cs := #[.bool false, .slice (some ad2) acc.length cu]) BK4n.out 1 (.slice A62 (rIns acc x).length c62) rfl)
                have BK2z := Aside0.mk (blk_far (p := ⟨g4, 1, none⟩) BK2n.out n24 (.slice A62 (rIns acc x).length c62))
                have HBz := Aside0.mk (show Below w.heap.size w (w62.setCell ⟨g4, 1, none⟩ (.slice A62 (rIns acc x).length c62)) from below_set HBw.out GE4.out)
                have HOz := Aside0.mk (Kd.R_mono (ok' := fun _ => True) (Kd.R_far (p := ⟨g4, 1, none⟩) (Kd.R_types (Kd.R_lower R1.out (below_step HB.out HBq.out).size) BK4n.out (by decide)) (fun _ hk => hk.2) (.slice A62 (rIns acc x).length c62)) (fun _ _ => trivial))
                clear hc4 hx
                try clear hHeld
                have hcza0 := (blk_cell BK4z.out 0).trans rfl
                have hcza1 := (blk_cell BK4z.out 1).trans rfl
                have hczb0 := (blk_cell BK2z.out 0).trans rfl
                have hczb1 := (blk_cell BK2z.out 1).trans rfl
                have hfzb0 := blk_frozen BK2z.out 0
                have hfzb1 := blk_frozen BK2z.out 1
                by_cases h33 : 32 < (rIns acc x).length
                · have c33 : decide (32 < ((rIns acc x).length : Int)) = true := decide_eq_true (by omega)
                  rw [if_pos h33] at HF
                  obtain ⟨rfl, rfl, rfl⟩ : r1 = false ∧ r2 = [] ∧ r3 = 22 := by
                    have := HF.out
                    simp only [Option.some.injEq, Prod.mk.injEq] at this
                    exact ⟨this.1.symm, this.2.1.symm, this.2.2.symm⟩
                  go_wp2_with fail
                  all_goals refine bodyPost_ret (results_ct rfl _ _ g2 26 #[.bool false, .slice none 0 0] (0, 0) _ rfl (blk_put (cs := #[.bool false, .slice none 0 0]) (blk_put (cs := #[.bool false, .slice none 0 0]) BK2z.out 0 (.bool false) rfl) 1 (.slice none 0 0) rfl) Try.underlying26 rfl (by kernel_rfl)) rfl ?_
                  all_goals exact ⟨_, rfl, Kd.R_nil _ _ _ _ _, below_set (below_set HBz.out GE2.out) GE2.out⟩
                · have c33 : decide (32 < ((rIns acc x).length : Int)) = false := decide_eq_false (by omega)
                  rw [if_neg h33] at HF
                  have H32 := Aside0.mk h33
                  clear h33
                  go_wp2_with fail
                  all_goals go_roundg (ko - 1)
                  all_goals first | (have := HX.out; omega) | exact ⟨i + 1, rIns acc x, _, by go_num, ⟨by have := HX.out; have := H32.out; omega⟩, HF, HOz, BK2z, BK4z, HBz⟩
            · have cj : decide ((j : Int) < (acc.length : Int)) = false := decide_eq_false (by omega)
              obtain rfl : j = kOf acc x := by have := HJ.out; omega
              rw [show rmake acc (x :: l0.drop (i + 1).toNat) = if 32 < (rIns acc x).length then none else rmake (rIns acc x) (l0.drop (i + 1).toNat) by rw [rmake, if_neg (by have := HNeg.out; omega), ← HCt.out, if_neg (by simp)]] at HF
              go_wp2_with fail
              go_quiet (fail)
              go_wp2_with fail
              have HBn := Aside0.mk (show Below wr.heap.size wr (wr.drewN nq).drew by repeat (first | exact Below.refl _ _ | apply pw_below_drewN | apply below_drew1))
              have HKL := Aside0.mk (kOf_le acc x)
              have HCa := Aside0.mk (Kd.C_below (R_C HO.out).2 HBq.out)
              have HCC := Aside0.mk (R_C HO.out).1
              have HLen := Aside0.mk (show acc.length ≤ 32 from HX.out.2.2.2)
              have hkc := eq_true (show kOf acc x ≤ cu by have := HCC.out; have := HKL.out; omega)
              have hka := eq_true (show kOf acc x ≤ acc.length from HKL.out)
              have HCu := Aside0.mk (take_C HCa.out HKL.out)
              have HCd := Aside0.mk (drop_C HCa.out HKL.out HCC.out)
              refine start_ (n := 19) (S := fun w' => w'.cell? ⟨g4, 1, none⟩ = some (.slice Au acc.length cu) ∧ w'.cell? (ad.add i.toNat) = some (.int .i64 x)) (ds := [18]) #[false, false, false, false, false, false, false, false, false, false, false, false, false, false, false, false, false, false, false] (by kernel_rfl) rfl rfl ⟨(HBn.out.cell L4.out).trans hc4, (HBn.out.cell LA.out).trans hx⟩ (fun hHeld => ?_)
              refine pure_ (i := 1) (N := some 47) (v := ?_) (a' := ?_) #[false, true, false, false, false, false, false, false, false, false, false, false, false, false, false, false, false, false, false] rfl rfl (by kernel_rfl) (fun _ _ _ h => h) (Or.inl ⟨by rfl, ?_⟩) ?_ ?_
              rotate_left
              · intro w'
                go_simp
                with_reducible rfl
              rotate_left
              · simp only [Act.put, List.setIfInBounds_toArray, List.set_cons_zero, List.set_cons_succ, i64_w, i32_w]
                rfl
              refine pure_ (i := 3) (N := some 49) (v := ?_) (a' := ?_) #[false, true, false, true, false, false, false, false, false, false, false, false, false, false, false, false, false, false, false] rfl rfl (by kernel_rfl) (fun _ _ _ h => h) (Or.inl ⟨by rfl, ?_⟩) ?_ ?_
              rotate_left
              · intro w'
                go_simp
                with_reducible rfl
              rotate_left
              · simp only [Act.put, List.setIfInBounds_toArray, List.set_cons_zero, List.set_cons_succ, i64_w, i32_w]
                rfl
              refine pure_ (i := 6) (N := some 52) (v := ?_) (a' := ?_) #[false, true, false, true, false, false, true, false, false, false, false, false, false, false, false, false, false, false, false] rfl rfl (by kernel_rfl) (fun _ _ _ h => h) (Or.inl ⟨by rfl, ?_⟩) ?_ ?_
              rotate_left
              · intro w'
                go_simp
                with_reducible rfl
              rotate_left
              · simp only [Act.put, List.setIfInBounds_toArray, List.set_cons_zero, List.set_cons_succ, i64_w, i32_w]
                rfl
              refine pure_ (i := 7) (N := some 53) (v := ?_) (a' := ?_) #[false, true, false, true, false, false, true, true, false, false, false, false, false, false, false, false, false, false, false] rfl rfl (by kernel_rfl) (fun _ _ _ h => h) (Or.inl ⟨by rfl, ?_⟩) ?_ ?_
              rotate_left
              · intro w'
                go_simp
                with_reducible rfl
              rotate_left
              · simp only [Act.put, List.setIfInBounds_toArray, List.set_cons_zero, List.set_cons_succ, i64_w, i32_w]
                rfl
              refine pure_ (i := 8) (N := some 54) (v := ?_) (a' := ?_) #[false, true, false, true, false, false, true, true, true, false, false, false, false, false, false, false, false, false, false] rfl rfl (by kernel_rfl) (fun _ _ _ h => h) (Or.inl ⟨by rfl, ?_⟩) ?_ ?_
              rotate_left
              · intro w'
                go_simp
                with_reducible rfl
              rotate_left
              · simp only [Act.put, List.setIfInBounds_toArray, List.set_cons_zero, List.set_cons_succ, i64_w, i32_w]
                rfl
              refine pure_ (i := 12) (N := some 58) (v := ?_) (a' := ?_) #[false, true, false, true, false, false, true, true, true, false, false, false, true, false, false, false, false, false, false] rfl rfl (by kernel_rfl) (fun _ _ _ h => h) (Or.inl ⟨by rfl, ?_⟩) ?_ ?_
              rotate_left
              · intro w'
                go_simp
                with_reducible rfl
              rotate_left
              · simp only [Act.put, List.setIfInBounds_toArray, List.set_cons_zero, List.set_cons_succ, i64_w, i32_w]
                rfl
              refine pure_ (i := 14) (N := some 60) (v := ?_) (a' := ?_) #[false, true, false, true, false, false, true, true, true, false, false, false, true, false, true, false, false, false, false] rfl rfl (by kernel_rfl) (fun _ _ _ h => h) (Or.inl ⟨by rfl, ?_⟩) ?_ ?_
              rotate_left
              · intro w'
                go_simp
                with_reducible rfl
              rotate_left
              · simp only [Act.put, List.setIfInBounds_toArray, List.set_cons_zero, List.set_cons_succ, i64_w, i32_w]
                rfl
              refine take_ (i := 2) (N := some 48) (v := ?_) (a' := ?_) #[false, true, true, true, false, false, true, true, true, false, false, false, true, false, true, false, false, false, false] rfl rfl (by kernel_rfl) (fun _ _ _ h => h) (Or.inl ⟨by rfl, ?_⟩) hHeld ?_ ?_
              rotate_left
              · rintro w' ⟨s0, s1⟩
                go_simp
                with_reducible rfl
              rotate_left
              · simp only [Act.put, List.setIfInBounds_toArray, List.set_cons_zero, List.set_cons_succ, i64_w, i32_w]
                rfl
              refine pure_ (i := 4) (N := some 50) (v := ?_) (a' := ?_) #[false, true, true, true, true, false, true, true, true, false, false, false, true, false, true, false, false, false, false] rfl rfl (by kernel_rfl) (fun _ _ _ h => h) (Or.inl ⟨by rfl, ?_⟩) ?_ ?_
              rotate_left
              · intro w'
                go_simp
                with_reducible rfl
              rotate_left
              · simp only [Act.put, List.setIfInBounds_toArray, List.set_cons_zero, List.set_cons_succ, i64_w, i32_w]
                rfl
              refine take_ (i := 9) (N := some 55) (v := ?_) (a' := ?_) #[false, true, true, true, true, false, true, true, true, true, false, false, true, false, true, false, false, false, false] rfl rfl (by kernel_rfl) (fun _ _ _ h => h) (Or.inl ⟨by rfl, ?_⟩) hHeld ?_ ?_
              rotate_left
              · rintro w' ⟨s0, s1⟩
                go_simp
                with_reducible rfl
              rotate_left
              · simp only [Act.put, List.setIfInBounds_toArray, List.set_cons_zero, List.set_cons_succ, i64_w, i32_w]
                rfl
              refine take_ (i := 13) (N := some 59) (v := ?_) (a' := ?_) #[false, true, true, true, true, false, true, true, true, true, false, false, true, true, true, false, false, false, false] rfl rfl (by kernel_rfl) (fun _ _ _ h => h) (Or.inl ⟨by rfl, ?_⟩) hHeld ?_ ?_
              rotate_left
              · rintro w' ⟨s0, s1⟩
                go_simp
                with_reducible rfl
              rotate_left
              · simp only [Act.put, List.setIfInBounds_toArray, List.set_cons_zero, List.set_cons_succ, i64_w, i32_w]
                rfl
              refine pure_ (i := 15) (N := some 61) (v := ?_) (a' := ?_) #[false, true, true, true, true, false, true, true, true, true, false, false, true, true, true, true, false, false, false] rfl rfl (by kernel_rfl) (fun _ _ _ h => h) (Or.inl ⟨by rfl, ?_⟩) ?_ ?_
              rotate_left
              · intro w'
                go_simp
                with_reducible rfl
              rotate_left
              · simp only [Act.put, List.setIfInBounds_toArray, List.set_cons_zero, List.set_cons_succ, i64_w, i32_w]
                rfl
              refine join_ (σ := Value × Value × Value) 4 #[true, true, true, true, true, true, true, true, true, true, true, false, true, true, true, true, false, false, false] (fun s => [(46, s.1), (51, s.2.1), (56, s.2.2)]) (fun s w' => Kd.R (Kd.int .i64) 3 w' wr.heap.size (fun _ => True) s.2.1 (acc.take (kOf acc x)) ∧ Kd.R (Kd.int .i64) 3 w' wr.heap.size (fun _ => True) s.2.2 [x] ∧ Below wr.heap.size wr w') ?_ ?_
              rotate_left
              · intro hCont
                refine two_ (i := 0) (j := 10) (Ni := some 46) (Nj := some 56) #[true, true, true, true, true, false, true, true, true, true, false, false, true, true, true, true, false, false, false] #[false, true, true, true, true, false, true, true, true, true, true, false, true, true, true, true, false, false, false] rfl rfl rfl rfl (by kernel_rfl) (by decide) (by decide) (fun K hK => ?_) (fun K hK => ?_)
                · skip
                  refine Kd.R_lit_step (Kd.int .i64) _ 3 ?hg (N := 46) ?hd (xs := ([] : List Int)) (inner := []) (ok := fun _ => True) (okp := fun _ => True) ?hr ?hp (fun _ hk => hk) trivial (Below.refl _ _) (Nat.le_refl _) (by simp) ?_
                  (case hd => rfl)
                  (case hg => rfl)
                  (case hr => first | (go_simp; done) | (go_simp; rfl))
                  (case hp => exact Reps.none _ _)
                  intro v46 w46 ho hb hg_ hnew_
                  clear hg_ hnew_
                  have m0_ := Aside0.mk (Kd.R_lower ho HBn.out.size)
                  have m1_ := Aside0.mk (below_step HBn.out hb)
                  try clear R0
                  try clear HBn
                  have R0 := m0_
                  have HBn := m1_
                  clear m0_ m1_
                  clear ho hb
                  refine hK.out _ _ ⟨(HBn.out.cell L4.out).trans hc4, (HBn.out.cell LA.out).trans hx⟩ (fun hHeld => ?_)
                  clear hK K
                  refine norm_ (a' := ?_) ?_ ?_
                  rotate_left
                  · show Act.put _ (some 46) _ = _
                    simp only [Act.put, List.setIfInBounds_toArray, List.set_cons_zero, List.set_cons_succ, i64_w, i32_w]
                    rfl
                  refine two_ (i := 5) (j := 10) (Ni := some 51) (Nj := some 56) #[true, true, true, true, true, true, true, true, true, true, false, false, true, true, true, true, false, false, false] #[true, true, true, true, true, false, true, true, true, true, true, false, true, true, true, true, false, false, false] rfl rfl rfl rfl (by kernel_rfl) (by decide) (by decide) (fun K hK => ?_) (fun K hK => ?_)
                  · skip
                    refine Kd.R_append_rows_step (Kd.int .i64) (w0 := wr) wr.heap.size (by rfl) (.tmp 46) (.tmp 50) 24 3 (.int .i64 0) 8 rfl Try.underlying24 info3 rfl (by decide) (by omega) v46 ([] : List Int) (acc.take (kOf acc x)) _ _ _ (fun _ => True) (fun _ => False) rfl rfl ?aO ?aR (fun _ _ h => h) (fun _ h => h.elim) ?aF ?aB ?aS ?aL ?_
                    (case aR => exact HCu.out _ HBn.out)
                    (case aB => exact HBn.out)
                    (case aF => exact (fun _ _ => trivial))
                    (case aO => exact R0.out)
                    (case aS => exact HBn.out.size)
                    (case aL => have := HLen.out; simp only [List.length_append, List.length_cons, List.length_nil, List.length_take, List.length_drop]; omega)
                    intro v51 w51 ho hb hg hat
                    rw [List.nil_append] at ho
                    have m0_ := Aside0.mk (ho)
                    have m1_ := Aside0.mk (hb)
                    try clear R1
                    try clear HBn
                    have R1 := m0_
                    have HBn := m1_
                    clear m0_ m1_
                    clear ho hb hg hat
                    refine hK.out _ _ ⟨(HBn.out.cell L4.out).trans hc4, (HBn.out.cell LA.out).trans hx⟩ (fun hHeld => ?_)
                    clear hK K
                    refine norm_ (a' := ?_) ?_ ?_
                    rotate_left
                    · show Act.put _ (some 51) _ = _
                      simp only [Act.put, List.setIfInBounds_toArray, List.set_cons_zero, List.set_cons_succ, i64_w, i32_w]
                      rfl
                    refine one_ (i := 10) (N := some 56) #[true, true, true, true, true, true, true, true, true, true, true, false, true, true, true, true, false, false, false] rfl rfl (by kernel_rfl) (by decide) (fun K hK => ?_)
                    refine Kd.R_lit_step (Kd.int .i64) _ 3 ?hg (N := 56) ?hd (xs := [x]) (inner := [.int .i64 x]) (ok := fun _ => True) (okp := fun _ => True) ?hr ?hp (fun _ hk => hk) trivial (Below.refl _ _) (Nat.le_refl _) (by simp) ?_
                    (case hd => rfl)
                    (case hg => rfl)
                    (case hr => first | (go_simp; done) | (go_simp; rfl))
                    (case hp => exact Reps.one rfl (Reps.none _ _))
                    intro v56 w56 ho hb hg_ hnew_
                    clear hg_ hnew_
                    have m0_ := Aside0.mk (Kd.R_lower ho HBn.out.size)
                    have m1_ := Aside0.mk (Kd.R_below R1.out hb)
                    have m2_ := Aside0.mk (below_step HBn.out hb)
                    try clear R2
                    try clear R1
                    try clear HBn
                    have R2 := m0_
                    have R1 := m1_
                    have HBn := m2_
                    clear m0_ m1_ m2_
                    clear ho hb
                    refine hK.out _ _ ⟨(HBn.out.cell L4.out).trans hc4, (HBn.out.cell LA.out).trans hx⟩ (fun hHeld => ?_)
                    clear hK K
                    refine norm_ (a' := ?_) ?_ ?_
                    rotate_left
                    · show Act.put _ (some 56) _ = _
                      simp only [Act.put, List.setIfInBounds_toArray, List.set_cons_zero, List.set_cons_succ, i64_w, i32_w]
                      rfl
                    exact norm_ (by simp only [putAll, Act.put, List.setIfInBounds_toArray, List.set_cons_zero, List.set_cons_succ]) (hCont (v46, v51, v56) _ ⟨R1.out, Kd.R_mono R2.out (fun _ _ => trivial), HBn.out⟩)
                  · skip
                    refine Kd.R_lit_step (Kd.int .i64) _ 3 ?hg (N := 56) ?hd (xs := [x]) (inner := [.int .i64 x]) (ok := fun _ => True) (okp := fun _ => True) ?hr ?hp (fun _ hk => hk) trivial (Below.refl _ _) (Nat.le_refl _) (by simp) ?_
                    (case hd => rfl)
                    (case hg => rfl)
                    (case hr => first | (go_simp; done) | (go_simp; rfl))
                    (case hp => exact Reps.one rfl (Reps.none _ _))
                    intro v56 w56 ho hb hg_ hnew_
                    clear hg_ hnew_
                    have m0_ := Aside0.mk (Kd.R_lower (Kd.R_new' ho (Kd.R_lt R0.out)) HBn.out.size)
                    have m1_ := Aside0.mk (Kd.R_below R0.out hb)
                    have m2_ := Aside0.mk (below_step HBn.out hb)
                    try clear R2
                    try clear R0
                    try clear HBn
                    have R2 := m0_
                    have R0 := m1_
                    have HBn := m2_
                    clear m0_ m1_ m2_
                    clear ho hb
                    refine hK.out _ _ ⟨(HBn.out.cell L4.out).trans hc4, (HBn.out.cell LA.out).trans hx⟩ (fun hHeld => ?_)
                    clear hK K
                    refine norm_ (a' := ?_) ?_ ?_
                    rotate_left
                    · show Act.put _ (some 56) _ = _
                      simp only [Act.put, List.setIfInBounds_toArray, List.set_cons_zero, List.set_cons_succ, i64_w, i32_w]
                      rfl
                    refine one_ (i := 5) (N := some 51) #[true, true, true, true, true, true, true, true, true, true, true, false, true, true, true, true, false, false, false] rfl rfl (by kernel_rfl) (by decide) (fun K hK => ?_)
                    refine Kd.R_append_rows_step (Kd.int .i64) (w0 := wr) wr.heap.size (by rfl) (.tmp 46) (.tmp 50) 24 3 (.int .i64 0) 8 rfl Try.underlying24 info3 rfl (by decide) (by omega) v46 ([] : List Int) (acc.take (kOf acc x)) _ _ _ (fun _ => True) (fun _ => False) rfl rfl ?aO ?aR (fun _ _ h => h) (fun _ h => h.elim) ?aF ?aB ?aS ?aL ?_
                    (case aR => exact HCu.out _ HBn.out)
                    (case aB => exact HBn.out)
                    (case aF => exact (fun _ _ => trivial))
                    (case aO => exact R0.out)
                    (case aS => exact HBn.out.size)
                    (case aL => have := HLen.out; simp only [List.length_append, List.length_cons, List.length_nil, List.length_take, List.length_drop]; omega)
                    intro v51 w51 ho hb hg hat
                    rw [List.nil_append] at ho
                    have m0_ := Aside0.mk (ho)
                    have m1_ := Aside0.mk (Kd.R_grown R2.out hg (fun _ hk => hk.2))
                    have m2_ := Aside0.mk (hb)
                    try clear R1
                    try clear R2
                    try clear HBn
                    have R1 := m0_
                    have R2 := m1_
                    have HBn := m2_
                    clear m0_ m1_ m2_
                    clear ho hb hg hat
                    refine hK.out _ _ ⟨(HBn.out.cell L4.out).trans hc4, (HBn.out.cell LA.out).trans hx⟩ (fun hHeld => ?_)
                    clear hK K
                    refine norm_ (a' := ?_) ?_ ?_
                    rotate_left
                    · show Act.put _ (some 51) _ = _
                      simp only [Act.put, List.setIfInBounds_toArray, List.set_cons_zero, List.set_cons_succ, i64_w, i32_w]
                      rfl
                    exact norm_ (by simp only [putAll, Act.put, List.setIfInBounds_toArray, List.set_cons_zero, List.set_cons_succ]) (hCont (v46, v51, v56) _ ⟨R1.out, Kd.R_mono R2.out (fun _ _ => trivial), HBn.out⟩)
                · skip
                  refine Kd.R_lit_step (Kd.int .i64) _ 3 ?hg (N := 56) ?hd (xs := [x]) (inner := [.int .i64 x]) (ok := fun _ => True) (okp := fun _ => True) ?hr ?hp (fun _ hk => hk) trivial (Below.refl _ _) (Nat.le_refl _) (by simp) ?_
                  (case hd => rfl)
                  (case hg => rfl)
                  (case hr => first | (go_simp; done) | (go_simp; rfl))
                  (case hp => exact Reps.one rfl (Reps.none _ _))
                  intro v56 w56 ho hb hg_ hnew_
                  clear hg_ hnew_
                  have m0_ := Aside0.mk (Kd.R_lower ho HBn.out.size)
                  have m1_ := Aside0.mk (below_step HBn.out hb)
                  try clear R2
                  try clear HBn
                  have R2 := m0_
                  have HBn := m1_
                  clear m0_ m1_
                  clear ho hb
                  refine hK.out _ _ ⟨(HBn.out.cell L4.out).trans hc4, (HBn.out.cell LA.out).trans hx⟩ (fun hHeld => ?_)
                  clear hK K
                  refine norm_ (a' := ?_) ?_ ?_
                  rotate_left
                  · show Act.put _ (some 56) _ = _
                    simp only [Act.put, List.setIfInBounds_toArray, List.set_cons_zero, List.set_cons_succ, i64_w, i32_w]
                    rfl
                  refine one_ (i := 0) (N := some 46) #[true, true, true, true, true, false, true, true, true, true, true, false, true, true, true, true, false, false, false] rfl rfl (by kernel_rfl) (by decide) (fun K hK => ?_)
                  refine Kd.R_lit_step (Kd.int .i64) _ 3 ?hg (N := 46) ?hd (xs := ([] : List Int)) (inner := []) (ok := fun _ => True) (okp := fun _ => True) ?hr ?hp (fun _ hk => hk) trivial (Below.refl _ _) (Nat.le_refl _) (by simp) ?_
                  (case hd => rfl)
                  (case hg => rfl)
                  (case hr => first | (go_simp; done) | (go_simp; rfl))
                  (case hp => exact Reps.none _ _)
                  intro v46 w46 ho hb hg_ hnew_
                  clear hg_ hnew_
                  have m0_ := Aside0.mk (Kd.R_elder' R2.out (Kd.R_base ho) hb)
                  have m1_ := Aside0.mk (Kd.R_lower ho HBn.out.size)
                  have m2_ := Aside0.mk (below_step HBn.out hb)
                  try clear R2
                  try clear R0
                  try clear HBn
                  have R2 := m0_
                  have R0 := m1_
                  have HBn := m2_
                  clear m0_ m1_ m2_
                  clear ho hb
                  refine hK.out _ _ ⟨(HBn.out.cell L4.out).trans hc4, (HBn.out.cell LA.out).trans hx⟩ (fun hHeld => ?_)
                  clear hK K
                  refine norm_ (a' := ?_) ?_ ?_
                  rotate_left
                  · show Act.put _ (some 46) _ = _
                    simp only [Act.put, List.setIfInBounds_toArray, List.set_cons_zero, List.set_cons_succ, i64_w, i32_w]
                    rfl
                  refine one_ (i := 5) (N := some 51) #[true, true, true, true, true, true, true, true, true, true, true, false, true, true, true, true, false, false, false] rfl rfl (by kernel_rfl) (by decide) (fun K hK => ?_)
                  refine Kd.R_append_rows_step (Kd.int .i64) (w0 := wr) wr.heap.size (by rfl) (.tmp 46) (.tmp 50) 24 3 (.int .i64 0) 8 rfl Try.underlying24 info3 rfl (by decide) (by omega) v46 ([] : List Int) (acc.take (kOf acc x)) _ _ _ (fun _ => True) (fun _ => False) rfl rfl ?aO ?aR (fun _ _ h => h) (fun _ h => h.elim) ?aF ?aB ?aS ?aL ?_
                  (case aR => exact HCu.out _ HBn.out)
                  (case aB => exact HBn.out)
                  (case aF => exact (fun _ _ => trivial))
                  (case aO => exact R0.out)
                  (case aS => exact HBn.out.size)
                  (case aL => have := HLen.out; simp only [List.length_append, List.length_cons, List.length_nil, List.length_take, List.length_drop]; omega)
                  intro v51 w51 ho hb hg hat
                  rw [List.nil_append] at ho
                  have m0_ := Aside0.mk (ho)
                  have m1_ := Aside0.mk (Kd.R_grown R2.out hg (fun _ hk => hk.2))
                  have m2_ := Aside0.mk (hb)
                  try clear R1
                  try clear R2
                  try clear HBn
                  have R1 := m0_
                  have R2 := m1_
                  have HBn := m2_
                  clear m0_ m1_ m2_
                  clear ho hb hg hat
                  refine hK.out _ _ ⟨(HBn.out.cell L4.out).trans hc4, (HBn.out.cell LA.out).trans hx⟩ (fun hHeld => ?_)
                  clear hK K
                  refine norm_ (a' := ?_) ?_ ?_
                  rotate_left
                  · show Act.put _ (some 51) _ = _
                    simp only [Act.put, List.setIfInBounds_toArray, List.set_cons_zero, List.set_cons_succ, i64_w, i32_w]
                    rfl
                  exact norm_ (by simp only [putAll, Act.put, List.setIfInBounds_toArray, List.set_cons_zero, List.set_cons_succ]) (hCont (v46, v51, v56) _ ⟨R1.out, Kd.R_mono R2.out (fun _ _ => trivial), HBn.out⟩)
              rintro ⟨v46, v51, v56⟩ w56 ⟨r1, r2, hbn⟩
              clear HBn
              have R1 := Aside0.mk r1
              have R2 := Aside0.mk r2
              have HBn := Aside0.mk hbn
              clear r1 r2 hbn
              obtain ⟨A56, c56, e56⟩ := Kd.R_slice R2.out
              have hHeld : w56.cell? ⟨g4, 1, none⟩ = some (.slice Au acc.length cu) ∧ w56.cell? (ad.add i.toNat) = some (.int .i64 x) := ⟨(HBn.out.cell L4.out).trans hc4, (HBn.out.cell LA.out).trans hx⟩
              dsimp only at e56
              subst e56
              refine norm_ (a' := ?_) ?_ ?_
              rotate_left
              · simp only [putAll, Act.put, List.setIfInBounds_toArray, List.set_cons_zero, List.set_cons_succ]
                rfl
              refine one_ (i := 11) (N := some 57) #[true, true, true, true, true, true, true, true, true, true, true, true, true, true, true, true, false, false, false] rfl rfl (by kernel_rfl) (by decide) (fun K hK => ?_)
              refine Kd.R_append_rows_step (Kd.int .i64) (w0 := wr) wr.heap.size (by rfl) (.tmp 51) (.tmp 56) 24 3 (.int .i64 0) 8 rfl Try.underlying24 info3 rfl (by decide) (by omega) v51 (acc.take (kOf acc x)) [x] _ _ _ (fun _ => True) (fun _ => False) rfl rfl ?aO ?aR (fun _ _ h => h) (fun _ h => h.elim) ?aF ?aB ?aS ?aL ?_
              (case aR => exact (R_C R2.out).2)
              (case aB => exact HBn.out)
              (case aF => exact (fun _ _ => trivial))
              (case aO => exact R1.out)
              (case aS => exact HBn.out.size)
              (case aL => have := HLen.out; simp only [List.length_append, List.length_cons, List.length_nil, List.length_take, List.length_drop]; omega)
              intro v57 w57 ho hb hg hat
              have m0_ := Aside0.mk (ho)
              have m1_ := Aside0.mk (hb)
              try clear R1
              try clear HBn
              have R1 := m0_
              have HBn := m1_
              clear m0_ m1_
              clear ho hb hg hat R2
              refine hK.out _ _ ⟨(HBn.out.cell L4.out).trans hc4, (HBn.out.cell LA.out).trans hx⟩ (fun hHeld => ?_)
              clear hK K
              refine norm_ (a' := ?_) ?_ ?_
              rotate_left
              · show Act.put _ (some 57) _ = _
                simp only [Act.put, List.setIfInBounds_toArray, List.set_cons_zero, List.set_cons_succ, i64_w, i32_w]
                rfl
              refine one_ (i := 16) (N := some 62) #[true, true, true, true, true, true, true, true, true, true, true, true, true, true, true, true, true, false, false] rfl rfl (by kernel_rfl) (by decide) (fun K hK => ?_)
              refine Kd.R_append_rows_step (Kd.int .i64) (w0 := wr) wr.heap.size (by rfl) (.tmp 57) (.tmp 61) 24 3 (.int .i64 0) 8 rfl Try.underlying24 info3 rfl (by decide) (by omega) v57 (acc.take (kOf acc x) ++ [x]) (acc.drop (kOf acc x)) _ _ _ (fun _ => True) (fun _ => False) rfl rfl ?aO ?aR (fun _ _ h => h) (fun _ h => h.elim) ?aF ?aB ?aS ?aL ?_
              (case aR => exact HCd.out _ HBn.out)
              (case aB => exact HBn.out)
              (case aF => exact (fun _ _ => trivial))
              (case aO => exact R1.out)
              (case aS => exact HBn.out.size)
              (case aL => have := HLen.out; simp only [List.length_append, List.length_cons, List.length_nil, List.length_take, List.length_drop]; omega)
              intro v62 w62 ho hb hg hat
              have m0_ := Aside0.mk ((show Kd.R (Kd.int .i64) 3 _ _ _ _ (rIns acc x) from ho))
              have m1_ := Aside0.mk (hb)
              try clear R1
              try clear HBn
              have R1 := m0_
              have HBn := m1_
              clear m0_ m1_
              clear ho hb hg hat
              obtain ⟨A62, c62, e62⟩ := Kd.R_slice R1.out
              subst e62
              refine hK.out _ _ ⟨(HBn.out.cell L4.out).trans hc4, (HBn.out.cell LA.out).trans hx⟩ (fun hHeld => ?_)
              clear hK K
              refine norm_ (a' := ?_) ?_ ?_
              rotate_left
              · show Act.put _ (some 62) _ = _
                simp only [Act.put, List.setIfInBounds_toArray, List.set_cons_zero, List.set_cons_succ, i64_w, i32_w]
                rfl
              refine pure_ (i := 17) (N := some 63) (v := ?_) (a' := ?_) #[true, true, true, true, true, true, true, true, true, true, true, true, true, true, true, true, true, true, false] rfl rfl (by kernel_rfl) (fun _ _ _ h => h) (Or.inl ⟨by rfl, ?_⟩) ?_ ?_
              rotate_left
              · intro w'
                go_simp
                with_reducible rfl
              rotate_left
              · simp only [Act.put, List.setIfInBounds_toArray, List.set_cons_zero, List.set_cons_succ, i64_w, i32_w]
                rfl
              refine last_ (i := 18) (N := none) #[true, true, true, true, true, true, true, true, true, true, true, true, true, true, true, true, true, true, true] rfl rfl (by kernel_rfl) (by decide) (fun K hK => ?_)
              have hst : w62.cell? ⟨g4, 1, none⟩ = some (.slice Au acc.length cu) := (HBn.out.cell L4.out).trans hc4
              have hsf := blk_frozen (blk_below (blk_below BK4r.out HBq.out) HBn.out) 1
              refine skip_ (w1 := ?_) (by rfl) rfl ?_ ?_
              rotate_left
              · go_simp
                rfl
              refine hK.out _ _ ?_
              clear hK K
              refine done_ (by kernel_rfl) ?_
              have hk1 := kOf_le acc x
              have BK4n := Aside0.mk (blk_below (blk_below BK4r.out HBq.out) HBn.out)
              have BK2n := Aside0.mk (blk_below (blk_below BK2r.out HBq.out) HBn.out)
              have HBw := Aside0.mk (show Below w.heap.size w w62 from below_step (below_step HB.out HBq.out) HBn.out)
              have BK4z := Aside0.mk (blk_put (cs := #[.bool false, .slice Au acc.length cu]) BK4n.out 1 (.slice A62 (rIns acc x).length c62) rfl)
              have BK2z := Aside0.mk (blk_far (p := ⟨g4, 1, none⟩) BK2n.out n24 (.slice A62 (rIns acc x).length c62))
              have HBz := Aside0.mk (show Below w.heap.size w (w62.setCell ⟨g4, 1, none⟩ (.slice A62 (rIns acc x).length c62)) from below_set HBw.out GE4.out)
              have HOz := Aside0.mk (Kd.R_mono (ok' := fun _ => True) (Kd.R_far (p := ⟨g4, 1, none⟩) (Kd.R_types (Kd.R_lower R1.out (below_step HB.out HBq.out).size) BK4n.out (by decide)) (fun _ hk => hk.2) (.slice A62 (rIns acc x).length c62)) (fun _ _ => trivial))
              clear hc4 hx
              try clear hHeld
              have hcza0 := (blk_cell BK4z.out 0).trans rfl
              have hcza1 := (blk_cell BK4z.out 1).trans rfl
              have hczb0 := (blk_cell BK2z.out 0).trans rfl
              have hczb1 := (blk_cell BK2z.out 1).trans rfl
              have hfzb0 := blk_frozen BK2z.out 0
              have hfzb1 := blk_frozen BK2z.out 1
              by_cases h33 : 32 < (rIns acc x).length
              · have c33 : decide (32 < ((rIns acc x).length : Int)) = true := decide_eq_true (by omega)
                rw [if_pos h33] at HF
                obtain ⟨rfl, rfl, rfl⟩ : r1 = false ∧ r2 = [] ∧ r3 = 22 := by
                  have := HF.out
                  simp only [Option.some.injEq, Prod.mk.injEq] at this
                  exact ⟨this.1.symm, this.2.1.symm, this.2.2.symm⟩
                go_wp2_with fail
                all_goals refine bodyPost_ret (results_ct rfl _ _ g2 26 #[.bool false, .slice none 0 0] (0, 0) _ rfl (blk_put (cs := #[.bool false, .slice none 0 0]) (blk_put (cs := #[.bool false, .slice none 0 0]) BK2z.out 0 (.bool false) rfl) 1 (.slice none 0 0) rfl) Try.underlying26 rfl (by kernel_rfl)) rfl ?_
                all_goals exact ⟨_, rfl, Kd.R_nil _ _ _ _ _, below_set (below_set HBz.out GE2.out) GE2.out⟩
              · have c33 : decide (32 < ((rIns acc x).length : Int)) = false := decide_eq_false (by omega)
                rw [if_neg h33] at HF
                have H32 := Aside0.mk h33
                clear h33
                go_wp2_with fail
                all_goals go_roundg (ko - 1)
                all_goals first | (have := HX.out; omega) | exact ⟨i + 1, rIns acc x, _, by go_num, ⟨by have := HX.out; have := H32.out; omega⟩, HF, HOz, BK2z, BK4z, HBz⟩
    · have c0_ : decide (i < (l0.length : Int)) = false := decide_eq_false hlt
      have hd0 : l0.drop i.toNat = [] := List.drop_of_length_le (by have := HK.out; omega)
      rw [hd0] at HF
      obtain ⟨rfl, ea, rfl⟩ : r1 = false ∧ acc = r2 ∧ r3 = 0 := by
        have := HF.out
        simp only [rmake, Option.some.injEq, Prod.mk.injEq] at this
        exact ⟨this.1.symm, this.2.1, this.2.2.symm⟩
      subst ea
      clear hlt hd0 HF
      go_wp2_with fail
      refine bodyPost_ret (results_ct rfl _ _ g2 26 #[.bool false, .slice Au _ cu] (0, 0) _ rfl (blk_put (cs := #[.bool false, .slice none 0 0]) (blk_put (cs := #[.bool false, .slice none 0 0]) BK2r.out 0 (.bool false) rfl) 1 (.slice Au _ cu) rfl) Try.underlying26 rfl (by kernel_rfl)) rfl ?_
      exact ⟨_, rfl, Kd.R_mono (Kd.R_far (p := ⟨g2, 1, none⟩) (Kd.R_far (p := ⟨g2, 0, none⟩) (Kd.R_types HO.out BK2r.out (by decide)) (fun _ hk => hk.2) _) (fun _ hk => hk.2) _) (fun _ _ => trivial), below_set (below_set HB.out GE2.out) GE2.out⟩
end Go.Proofs.Ytilfalpfanaanaa.PA

namespace Go.Proofs.Ytilfalpfanaanaa.PA
open Go.RowKit Go.Proofs.YtilfalpfanaanaaW.PrintWords Go.Proofs.YtilfalpfanaanaaW.PrintLast Go.Proofs.YtilfalpfanaanaaW.PrintMore
end Go.Proofs.Ytilfalpfanaanaa.PA

namespace Go.Proofs.Ytilfalpfanaanaa.PA
open Go.RowKit Go.Proofs.YtilfalpfanaanaaW.PrintWords Go.Proofs.YtilfalpfanaanaaW.PrintLast Go.Proofs.YtilfalpfanaanaaW.PrintMore
attribute [local go_sem] max2_int min2_int max_two min_two max_three min_three max_four min_four   -- for this text's walks alone
mutual
def purlieuref02_Subset.j0 : Nat → Bool → Bool → List Int → Bool → List Int → Option (Bool)
  | 0, _, _, _, _, _ => none
  | k + 1, x22, x130000, x130001, x131000, x131001 => if x22 = true then (some false) else (purlieuref02_Subset.l0 k 0 x130000 x130001 x131000 x131001)
def purlieuref02_Subset.l0 : Nat → Int → Bool → List Int → Bool → List Int → Option (Bool)
  | 0, _, _, _, _, _ => none
  | k + 1, x5, x130000, x130001, x131000, x131001 => if x5 < (x130001.length : Int) then (if 0 ≤ x5 then ((purlieuref02_Has.f k x131000 x131001 (rd x130001 x5)).bind fun t134 => (if t134 = true then (purlieuref02_Subset.l0 k (wrap64 (x5 + 1)) x130000 x130001 x131000 x131001) else (some false))) else (none)) else (some true)
end
def purlieuref02_Subset.f (k : Nat) (a0_0 : Bool) (l0_1 : List Int) (a1_0 : Bool) (l1_1 : List Int) : Option (Bool) := (purlieuref02_Can.f k a0_0 l0_1).bind fun t131 => (if t131 = true then ((purlieuref02_Can.f k a1_0 l1_1).bind fun t132 => (if t132 = true then (if a0_0 = true then (purlieuref02_Subset.j0 k (!a1_0) a0_0 l0_1 a1_0 l1_1) else (purlieuref02_Subset.j0 k false a0_0 l0_1 a1_0 l1_1)) else (purlieuref02_Subset.j0 k true a0_0 l0_1 a1_0 l1_1))) else (purlieuref02_Subset.j0 k true a0_0 l0_1 a1_0 l1_1))
def purlieuref02_Subset.T6 : Bool × List (List Nat × List Nat) := (true, [([], []), ([], []), ([1], [1]), ([], []), ([2, 3], [2, 3]), ([4], [4]), ([0, 5], [0, 5]), ([6], [6])])
def purlieuref02_Subset.B6 : List Nat := [0, 0, 2, 0, 14, 30, 63, 127]
theorem purlieuref02_Subset.tab6 : rtab .any (opsOf Try.f42 6) = purlieuref02_Subset.T6 := by kernel_rfl
theorem purlieuref02_Subset.bits6 : waitsOk purlieuref02_Subset.T6.2 purlieuref02_Subset.B6 = true := by kernel_rfl
set_option maxHeartbeats 8000000 in
set_option maxRecDepth 100000 in
theorem purlieuref02_Subset.calls (k : Nat) (a0_0 : Bool) (A0_1 : Option Addr) (c0_1 : Nat) (l0_1 : List Int) (a1_0 : Bool) (A1_1 : Option Addr) (c1_1 : Nat) (l1_1 : List Int) (r : Bool) (w : World) (hr0_1 : Kd.C (Kd.int .i64) w A0_1 l0_1.length l0_1) (hc0_1 : l0_1.length ≤ c0_1) (hr1_1 : Kd.C (Kd.int .i64) w A1_1 l1_1.length l1_1) (hc1_1 : l1_1.length ≤ c1_1) (h : purlieuref02_Subset.f k a0_0 l0_1 a1_0 l1_1 = some r) :
    Calls Try.prog 42 #[.agg #[.bool a0_0, .slice A0_1 l0_1.length c0_1], .agg #[.bool a1_0, .slice A1_1 l1_1.length c1_1]] w fun e w' => e = .returned (.bool r) ∧ Below w.heap.size w w' := by
  have hu26 := Try.underlying26
  have HR0_1 := Aside0.mk hr0_1
  have HC0_1 := Aside0.mk hc0_1
  clear hr0_1 hc0_1
  have HR1_1 := Aside0.mk hr1_1
  have HC1_1 := Aside0.mk hc1_1
  clear hr1_1 hc1_1
  have HB := Aside0.mk (Below.refl w.heap.size w)
  have H : ((purlieuref02_Can.f k a0_0 l0_1).bind fun t131 => (if t131 = true then ((purlieuref02_Can.f k a1_0 l1_1).bind fun t132 => (if t132 = true then (if a0_0 = true then (purlieuref02_Subset.j0 k (!a1_0) a0_0 l0_1 a1_0 l1_1) else (purlieuref02_Subset.j0 k false a0_0 l0_1 a1_0 l1_1)) else (purlieuref02_Subset.j0 k true a0_0 l0_1 a1_0 l1_1))) else (purlieuref02_Subset.j0 k true a0_0 l0_1 a1_0 l1_1))) = some r := h
  clear h
  have HC3 := Aside0.mk H
  clear H
  go_enter Try.func42, Try.ntmps42
  go_upto_region 1 with (first | ((with_reducible refine gate_dst (N := 2) rfl ?_); refine box_event ?hg (N := 2) ?hd (cs := #[.bool a0_0, .slice A0_1 l0_1.length c0_1]) (t := 26) ?hr ?_; (case hd => rfl); (case hg => rfl); (case hr => first | (go_simp; done) | (go_simp; rfl)); intro gb129 hg w4 hbox hb; have n0_ := Aside0.mk (below_step (by repeat (first | (with_reducible first | exact HB.out | apply below_alloc | apply pw_below_drewN | apply below_drew1) | exact HB.out)) hb); have n1_ := Aside0.mk (hbox); have n2_ := Aside0.mk ((by rw [hg]; exact (below_size (by repeat (first | (with_reducible first | exact HB.out | apply below_alloc | apply pw_below_drewN | apply below_drew1) | exact HB.out))) : w.heap.size ≤ gb129)); have n3_ := Aside0.mk ((by rw [hg]; exact (below_size (by repeat (first | (with_reducible first | exact HB.out | apply below_alloc | apply pw_below_drewN | apply below_drew1) | exact HB.out))) : w.heap.size ≤ gb129)); clear HB; have HB := n0_; have BK129 := n1_; have GW129 := n2_; have GE129 := n3_; clear n0_ n1_ n2_ n3_; clear hb hbox hg) | ((with_reducible refine gate_dst (N := 3) rfl ?_); refine box_event ?hg (N := 3) ?hd (cs := #[.bool a1_0, .slice A1_1 l1_1.length c1_1]) (t := 26) ?hr ?_; (case hd => rfl); (case hg => rfl); (case hr => first | (go_simp; done) | (go_simp; rfl)); intro gb130 hg w5 hbox hb; have n0_ := Aside0.mk (blk_below (g := gb129) (o := .cells #[.bool a0_0, .slice A0_1 l0_1.length c0_1] 26 (0, 0)) (by (with_reducible repeat (first | refine blk_drewN ?_ _ | refine blk_drew ?_ | refine blk_alloc ?_ _)); exact BK129.out) hb); have n1_ := Aside0.mk (below_step (by repeat (first | (with_reducible first | exact HB.out | apply below_alloc | apply pw_below_drewN | apply below_drew1 | refine below_set ?_ GE129.out) | exact HB.out)) hb); have n2_ := Aside0.mk (hbox); have n3_ := Aside0.mk ((by rw [hg]; exact (below_size (by repeat (first | (with_reducible first | exact HB.out | apply below_alloc | apply pw_below_drewN | apply below_drew1 | refine below_set ?_ GE129.out) | exact HB.out))) : w.heap.size ≤ gb130)); have n4_ := Aside0.mk ((by rw [hg]; exact (below_size (by repeat (first | (with_reducible first | exact HB.out | apply below_alloc | apply pw_below_drewN | apply below_drew1 | refine below_set ?_ GE129.out) | exact HB.out))) : w.heap.size ≤ gb130)); have n5_ := Aside0.mk ((by rw [hg]; exact Nat.ne_of_lt (blk_lt (g := gb129) (o := .cells #[.bool a0_0, .slice A0_1 l0_1.length c0_1] 26 (0, 0)) (by (with_reducible repeat (first | refine blk_drewN ?_ _ | refine blk_drew ?_ | refine blk_alloc ?_ _)); exact BK129.out)) : gb129 ≠ gb130)); have n6_ := Aside0.mk ((by rw [hg]; exact Nat.ne_of_gt (blk_lt (g := gb129) (o := .cells #[.bool a0_0, .slice A0_1 l0_1.length c0_1] 26 (0, 0)) (by (with_reducible repeat (first | refine blk_drewN ?_ _ | refine blk_drew ?_ | refine blk_alloc ?_ _)); exact BK129.out)) : gb130 ≠ gb129)); clear BK129; clear HB; have BK129 := n0_; have HB := n1_; have BK130 := n2_; have GW130 := n3_; have GE130 := n4_; have NB129_130 := n5_; have NB130_129 := n6_; clear n0_ n1_ n2_ n3_ n4_ n5_ n6_; clear hb hbox hg))
  (try simp only [Act.put, List.setIfInBounds_toArray, List.set_cons_zero, List.set_cons_succ])
  go_cut [22] (fun v22 wc => ∃ (kq : Nat) (x22_2 : Bool), v22 = .bool x22_2 ∧ Aside0 (purlieuref02_Subset.j0 kq x22_2 a0_0 l0_1 a1_0 l1_1 = some r) ∧ Aside0 (kq ≤ k) ∧ Aside0 (wc.heap[gb129]? = some (.cells #[.bool a0_0, (.slice A0_1 l0_1.length c0_1)] 26 (0, 0))) ∧ Aside0 (wc.heap[gb130]? = some (.cells #[.bool a1_0, (.slice A1_1 l1_1.length c1_1)] 26 (0, 0))) ∧ Aside0 (Below w.heap.size w wc))
  case first =>
    have H := HC3.out
    clear HC3
    replace H := Option.bind_eq_some_iff.mp H
    obtain ⟨t131, A60, H⟩ := H
    replace H : (if t131 = true then ((purlieuref02_Can.f k a1_0 l1_1).bind fun t132 => (if t132 = true then (if a0_0 = true then (purlieuref02_Subset.j0 k (!a1_0) a0_0 l0_1 a1_0 l1_1) else (purlieuref02_Subset.j0 k false a0_0 l0_1 a1_0 l1_1)) else (purlieuref02_Subset.j0 k true a0_0 l0_1 a1_0 l1_1))) else (purlieuref02_Subset.j0 k true a0_0 l0_1 a1_0 l1_1)) = some r := H
    have A6 := Aside0.mk A60
    clear A60
    by_cases c7 : t131 = true
    · subst c7
      have H1 : ((purlieuref02_Can.f k a1_0 l1_1).bind fun t132 => (if t132 = true then (if a0_0 = true then (purlieuref02_Subset.j0 k (!a1_0) a0_0 l0_1 a1_0 l1_1) else (purlieuref02_Subset.j0 k false a0_0 l0_1 a1_0 l1_1)) else (purlieuref02_Subset.j0 k true a0_0 l0_1 a1_0 l1_1))) = some r := by rw [if_pos rfl] at H; exact H
      clear H
      have H := H1
      clear H1
      replace H := Option.bind_eq_some_iff.mp H
      obtain ⟨t132, A80, H⟩ := H
      replace H : (if t132 = true then (if a0_0 = true then (purlieuref02_Subset.j0 k (!a1_0) a0_0 l0_1 a1_0 l1_1) else (purlieuref02_Subset.j0 k false a0_0 l0_1 a1_0 l1_1)) else (purlieuref02_Subset.j0 k true a0_0 l0_1 a1_0 l1_1)) = some r := H
      have A8 := Aside0.mk A80
      clear A80
      by_cases c9 : t132 = true
      · subst c9
        have H1 : (if a0_0 = true then (purlieuref02_Subset.j0 k (!a1_0) a0_0 l0_1 a1_0 l1_1) else (purlieuref02_Subset.j0 k false a0_0 l0_1 a1_0 l1_1)) = some r := by rw [if_pos rfl] at H; exact H
        clear H
        have H := H1
        clear H1
        by_cases c10 : a0_0 = true
        · subst c10
          have H1 : (purlieuref02_Subset.j0 k (!a1_0) true l0_1 a1_0 l1_1) = some r := by rw [if_pos rfl] at H; exact H
          clear H
          have H := H1
          clear H1
          have H' := Aside0.mk H
          clear H
          have hnb11 := NB129_130.out
          have hnc11 := NB130_129.out
          have hcz12_0 : w5.cell? ⟨gb129, 0, none⟩ = some (.bool true) := (blk_cell BK129.out 0).trans rfl
          have hcz12_1 : w5.cell? ⟨gb129, 1, none⟩ = some (.slice A0_1 l0_1.length c0_1) := (blk_cell BK129.out 1).trans rfl
          have hfz12_0 := blk_frozen BK129.out 0
          have hfz12_1 := blk_frozen BK129.out 1
          go_wp2_with (first | ((with_reducible refine gate_callee (f := 32) rfl ?_); refine goesL_ (some 7) rfl rfl Try.func32 (by kernel_rfl) rfl #[.agg #[.bool true, .slice A0_1 l0_1.length c0_1]] rfl (by (try simp only [List.map_toArray, List.map_cons, List.map_nil]); first | done | rfl | (simp only [List.length_drop, List.length_take]; rfl)) ?_; (with_reducible refine (purlieuref02_Can.calls k true _ _ l0_1 true _ ?side1 ?side2 A6.out).mono ?_); (case side1 => repeat (first | exact (Kd.C_below HR0_1.out HB.out) | (with_reducible refine Kd.C_alloc ?_ _) | (with_reducible refine Kd.C_drewN ?_ _) | (with_reducible refine Kd.C_drew ?_))); (case side2 => exact HC0_1.out); rintro e w13 ⟨rfl, hb⟩; refine ⟨_, rfl, ?_⟩; have n0_ := Aside0.mk (blk_below (g := gb129) (o := .cells #[.bool true, .slice A0_1 l0_1.length c0_1] 26 (0, 0)) (by (with_reducible repeat (first | refine blk_drewN ?_ _ | refine blk_drew ?_ | refine blk_alloc ?_ _)); exact BK129.out) hb); have n1_ := Aside0.mk (blk_below (g := gb130) (o := .cells #[.bool a1_0, .slice A1_1 l1_1.length c1_1] 26 (0, 0)) (by (with_reducible repeat (first | refine blk_drewN ?_ _ | refine blk_drew ?_ | refine blk_alloc ?_ _)); exact BK130.out) hb); have n2_ := Aside0.mk (below_step (by repeat (first | (with_reducible first | exact HB.out | apply below_alloc | apply pw_below_drewN | apply below_drew1 | refine below_set ?_ GE129.out | refine below_set ?_ GE130.out) | exact HB.out)) hb); clear BK129; clear BK130; clear HB; have BK129 := n0_; have BK130 := n1_; have HB := n2_; clear n0_ n1_ n2_; (try clear hb); (try clear hb2); (try clear hk); (try clear hi); have hcz14_0 : w13.cell? ⟨gb130, 0, none⟩ = some (.bool a1_0) := (blk_cell BK130.out 0).trans rfl; have hcz14_1 : w13.cell? ⟨gb130, 1, none⟩ = some (.slice A1_1 l1_1.length c1_1) := (blk_cell BK130.out 1).trans rfl; have hfz14_0 := blk_frozen BK130.out 0; have hfz14_1 := blk_frozen BK130.out 1) | (go_at_call 32; (with_reducible refine (purlieuref02_Can.calls k a1_0 _ _ l1_1 true _ ?side1 ?side2 A8.out).mono ?_); (case side1 => repeat (first | exact (Kd.C_below HR1_1.out HB.out) | (with_reducible refine Kd.C_alloc ?_ _) | (with_reducible refine Kd.C_drewN ?_ _) | (with_reducible refine Kd.C_drew ?_))); (case side2 => exact HC1_1.out); rintro e w15 ⟨rfl, hb⟩; have n0_ := Aside0.mk (blk_below (g := gb129) (o := .cells #[.bool true, .slice A0_1 l0_1.length c0_1] 26 (0, 0)) (by (with_reducible repeat (first | refine blk_drewN ?_ _ | refine blk_drew ?_ | refine blk_alloc ?_ _)); exact BK129.out) hb); have n1_ := Aside0.mk (blk_below (g := gb130) (o := .cells #[.bool a1_0, .slice A1_1 l1_1.length c1_1] 26 (0, 0)) (by (with_reducible repeat (first | refine blk_drewN ?_ _ | refine blk_drew ?_ | refine blk_alloc ?_ _)); exact BK130.out) hb); have n2_ := Aside0.mk (below_step (by repeat (first | (with_reducible first | exact HB.out | apply below_alloc | apply pw_below_drewN | apply below_drew1 | refine below_set ?_ GE129.out | refine below_set ?_ GE130.out) | exact HB.out)) hb); clear BK129; clear BK130; clear HB; have BK129 := n0_; have BK130 := n1_; have HB := n2_; clear n0_ n1_ n2_; (try clear hb); (try clear hb2); (try clear hk); (try clear hi); have hcz16_0 : w15.cell? ⟨gb129, 0, none⟩ = some (.bool true) := (blk_cell BK129.out 0).trans rfl; have hcz16_1 : w15.cell? ⟨gb129, 1, none⟩ = some (.slice A0_1 l0_1.length c0_1) := (blk_cell BK129.out 1).trans rfl; have hfz16_0 := blk_frozen BK129.out 0; have hfz16_1 := blk_frozen BK129.out 1; have hcz17_0 : w15.cell? ⟨gb130, 0, none⟩ = some (.bool a1_0) := (blk_cell BK130.out 0).trans rfl; have hcz17_1 : w15.cell? ⟨gb130, 1, none⟩ = some (.slice A1_1 l1_1.length c1_1) := (blk_cell BK130.out 1).trans rfl; have hfz17_0 := blk_frozen BK130.out 0; have hfz17_1 := blk_frozen BK130.out 1))
          go_meet
          case rel => exact ⟨_, (!a1_0), (by first | rfl | (simp; done) | (simp [*]; done)), H', ⟨by first | omega | exact Nat.le_refl _⟩, ⟨by (with_reducible repeat (first | refine blk_drewN ?_ _ | refine blk_drew ?_ | refine blk_alloc ?_ _)); exact BK129.out⟩, ⟨by (with_reducible repeat (first | refine blk_drewN ?_ _ | refine blk_drew ?_ | refine blk_alloc ?_ _)); exact BK130.out⟩, ⟨by repeat (first | (with_reducible first | exact HB.out | apply below_alloc | apply pw_below_drewN | apply below_drew1 | refine below_set ?_ GE129.out | refine below_set ?_ GE130.out) | exact HB.out)⟩⟩
        · replace c10 := Bool.eq_false_iff.mpr c10
          subst c10
          have H1 : (purlieuref02_Subset.j0 k false false l0_1 a1_0 l1_1) = some r := by rw [if_neg (show ¬ (false = true) by decide)] at H; exact H
          clear H
          have H := H1
          clear H1
          have H' := Aside0.mk H
          clear H
          have hnb18 := NB129_130.out
          have hnc18 := NB130_129.out
          have hcz19_0 : w5.cell? ⟨gb129, 0, none⟩ = some (.bool false) := (blk_cell BK129.out 0).trans rfl
          have hcz19_1 : w5.cell? ⟨gb129, 1, none⟩ = some (.slice A0_1 l0_1.length c0_1) := (blk_cell BK129.out 1).trans rfl
          have hfz19_0 := blk_frozen BK129.out 0
          have hfz19_1 := blk_frozen BK129.out 1
          go_wp2_with (first | ((with_reducible refine gate_callee (f := 32) rfl ?_); refine goesL_ (some 7) rfl rfl Try.func32 (by kernel_rfl) rfl #[.agg #[.bool false, .slice A0_1 l0_1.length c0_1]] rfl (by (try simp only [List.map_toArray, List.map_cons, List.map_nil]); first | done | rfl | (simp only [List.length_drop, List.length_take]; rfl)) ?_; (with_reducible refine (purlieuref02_Can.calls k false _ _ l0_1 true _ ?side1 ?side2 A6.out).mono ?_); (case side1 => repeat (first | exact (Kd.C_below HR0_1.out HB.out) | (with_reducible refine Kd.C_alloc ?_ _) | (with_reducible refine Kd.C_drewN ?_ _) | (with_reducible refine Kd.C_drew ?_))); (case side2 => exact HC0_1.out); rintro e w20 ⟨rfl, hb⟩; refine ⟨_, rfl, ?_⟩; have n0_ := Aside0.mk (blk_below (g := gb129) (o := .cells #[.bool false, .slice A0_1 l0_1.length c0_1] 26 (0, 0)) (by (with_reducible repeat (first | refine blk_drewN ?_ _ | refine blk_drew ?_ | refine blk_alloc ?_ _)); exact BK129.out) hb); have n1_ := Aside0.mk (blk_below (g := gb130) (o := .cells #[.bool a1_0, .slice A1_1 l1_1.length c1_1] 26 (0, 0)) (by (with_reducible repeat (first | refine blk_drewN ?_ _ | refine blk_drew ?_ | refine blk_alloc ?_ _)); exact BK130.out) hb); have n2_ := Aside0.mk (below_step (by repeat (first | (with_reducible first | exact HB.out | apply below_alloc | apply pw_below_drewN | apply below_drew1 | refine below_set ?_ GE129.out | refine below_set ?_ GE130.out) | exact HB.out)) hb); clear BK129; clear BK130; clear HB; have BK129 := n0_; have BK130 := n1_; have HB := n2_; clear n0_ n1_ n2_; (try clear hb); (try clear hb2); (try clear hk); (try clear hi); have hcz21_0 : w20.cell? ⟨gb130, 0, none⟩ = some (.bool a1_0) := (blk_cell BK130.out 0).trans rfl; have hcz21_1 : w20.cell? ⟨gb130, 1, none⟩ = some (.slice A1_1 l1_1.length c1_1) := (blk_cell BK130.out 1).trans rfl; have hfz21_0 := blk_frozen BK130.out 0; have hfz21_1 := blk_frozen BK130.out 1) | (go_at_call 32; (with_reducible refine (purlieuref02_Can.calls k a1_0 _ _ l1_1 true _ ?side1 ?side2 A8.out).mono ?_); (case side1 => repeat (first | exact (Kd.C_below HR1_1.out HB.out) | (with_reducible refine Kd.C_alloc ?_ _) | (with_reducible refine Kd.C_drewN ?_ _) | (with_reducible refine Kd.C_drew ?_))); (case side2 => exact HC1_1.out); rintro e w22 ⟨rfl, hb⟩; have n0_ := Aside0.mk (blk_below (g := gb129) (o := .cells #[.bool false, .slice A0_1 l0_1.length c0_1] 26 (0, 0)) (by (with_reducible repeat (first | refine blk_drewN ?_ _ | refine blk_drew ?_ | refine blk_alloc ?_ _)); exact BK129.out) hb); have n1_ := Aside0.mk (blk_below (g := gb130) (o := .cells #[.bool a1_0, .slice A1_1 l1_1.length c1_1] 26 (0, 0)) (by (with_reducible repeat (first | refine blk_drewN ?_ _ | refine blk_drew ?_ | refine blk_alloc ?_ _)); exact BK130.out) hb); have n2_ := Aside0.mk (below_step (by repeat (first | (with_reducible first | exact HB.out | apply below_alloc | apply pw_below_drewN | apply below_drew1 | refine below_set ?_ GE129.out | refine below_set ?_ GE130.out) | exact HB.out)) hb); clear BK129; clear BK130; clear HB; have BK129 := n0_; have BK130 := n1_; have HB := n2_; clear n0_ n1_ n2_; (try clear hb); (try clear hb2); (try clear hk); (try clear hi); have hcz23_0 : w22.cell? ⟨gb129, 0, none⟩ = some (.bool false) := (blk_cell BK129.out 0).trans rfl; have hcz23_1 : w22.cell? ⟨gb129, 1, none⟩ = some (.slice A0_1 l0_1.length c0_1) := (blk_cell BK129.out 1).trans rfl; have hfz23_0 := blk_frozen BK129.out 0; have hfz23_1 := blk_frozen BK129.out 1))
          go_meet
          case rel => exact ⟨_, (false), (by first | rfl | (simp; done) | (simp [*]; done)), H', ⟨by first | omega | exact Nat.le_refl _⟩, ⟨by (with_reducible repeat (first | refine blk_drewN ?_ _ | refine blk_drew ?_ | refine blk_alloc ?_ _)); exact BK129.out⟩, ⟨by (with_reducible repeat (first | refine blk_drewN ?_ _ | refine blk_drew ?_ | refine blk_alloc ?_ _)); exact BK130.out⟩, ⟨by repeat (first | (with_reducible first | exact HB.out | apply below_alloc | apply pw_below_drewN | apply below_drew1 | refine below_set ?_ GE129.out | refine below_set ?_ GE130.out) | exact HB.out)⟩⟩
      · replace c9 := Bool.eq_false_iff.mpr c9
        subst c9
        have H1 : (purlieuref02_Subset.j0 k true a0_0 l0_1 a1_0 l1_1) = some r := by rw [if_neg (show ¬ (false = true) by decide)] at H; exact H
        clear H
        have H := H1
        clear H1
        have H' := Aside0.mk H
        clear H
        have hnb24 := NB129_130.out
        have hnc24 := NB130_129.out
        have hcz25_0 : w5.cell? ⟨gb129, 0, none⟩ = some (.bool a0_0) := (blk_cell BK129.out 0).trans rfl
        have hcz25_1 : w5.cell? ⟨gb129, 1, none⟩ = some (.slice A0_1 l0_1.length c0_1) := (blk_cell BK129.out 1).trans rfl
        have hfz25_0 := blk_frozen BK129.out 0
        have hfz25_1 := blk_frozen BK129.out 1
        go_wp2_with (first | ((with_reducible refine gate_callee (f := 32) rfl ?_); refine goesL_ (some 7) rfl rfl Try.func32 (by kernel_rfl) rfl #[.agg #[.bool a0_0, .slice A0_1 l0_1.length c0_1]] rfl (by (try simp only [List.map_toArray, List.map_cons, List.map_nil]); first | done | rfl | (simp only [List.length_drop, List.length_take]; rfl)) ?_; (with_reducible refine (purlieuref02_Can.calls k a0_0 _ _ l0_1 true _ ?side1 ?side2 A6.out).mono ?_); (case side1 => repeat (first | exact (Kd.C_below HR0_1.out HB.out) | (with_reducible refine Kd.C_alloc ?_ _) | (with_reducible refine Kd.C_drewN ?_ _) | (with_reducible refine Kd.C_drew ?_))); (case side2 => exact HC0_1.out); rintro e w26 ⟨rfl, hb⟩; refine ⟨_, rfl, ?_⟩; have n0_ := Aside0.mk (blk_below (g := gb129) (o := .cells #[.bool a0_0, .slice A0_1 l0_1.length c0_1] 26 (0, 0)) (by (with_reducible repeat (first | refine blk_drewN ?_ _ | refine blk_drew ?_ | refine blk_alloc ?_ _)); exact BK129.out) hb); have n1_ := Aside0.mk (blk_below (g := gb130) (o := .cells #[.bool a1_0, .slice A1_1 l1_1.length c1_1] 26 (0, 0)) (by (with_reducible repeat (first | refine blk_drewN ?_ _ | refine blk_drew ?_ | refine blk_alloc ?_ _)); exact BK130.out) hb); have n2_ := Aside0.mk (below_step (by repeat (first | (with_reducible first | exact HB.out | apply below_alloc | apply pw_below_drewN | apply below_drew1 | refine below_set ?_ GE129.out | refine below_set ?_ GE130.out) | exact HB.out)) hb); clear BK129; clear BK130; clear HB; have BK129 := n0_; have BK130 := n1_; have HB := n2_; clear n0_ n1_ n2_; (try clear hb); (try clear hb2); (try clear hk); (try clear hi); have hcz27_0 : w26.cell? ⟨gb130, 0, none⟩ = some (.bool a1_0) := (blk_cell BK130.out 0).trans rfl; have hcz27_1 : w26.cell? ⟨gb130, 1, none⟩ = some (.slice A1_1 l1_1.length c1_1) := (blk_cell BK130.out 1).trans rfl; have hfz27_0 := blk_frozen BK130.out 0; have hfz27_1 := blk_frozen BK130.out 1) | (go_at_call 32; (with_reducible refine (purlieuref02_Can.calls k a1_0 _ _ l1_1 false _ ?side1 ?side2 A8.out).mono ?_); (case side1 => repeat (first | exact (Kd.C_below HR1_1.out HB.out) | (with_reducible refine Kd.C_alloc ?_ _) | (with_reducible refine Kd.C_drewN ?_ _) | (with_reducible refine Kd.C_drew ?_))); (case side2 => exact HC1_1.out); rintro e w28 ⟨rfl, hb⟩; have n0_ := Aside0.mk (blk_below (g := gb129) (o := .cells #[.bool a0_0, .slice A0_1 l0_1.length c0_1] 26 (0, 0)) (by (with_reducible repeat (first | refine blk_drewN ?_ _ | refine blk_drew ?_ | refine blk_alloc ?_ _)); exact BK129.out) hb); have n1_ := Aside0.mk (blk_below (g := gb130) (o := .cells #[.bool a1_0, .slice A1_1 l1_1.length c1_1] 26 (0, 0)) (by (with_reducible repeat (first | refine blk_drewN ?_ _ | refine blk_drew ?_ | refine blk_alloc ?_ _)); exact BK130.out) hb); have n2_ := Aside0.mk (below_step (by repeat (first | (with_reducible first | exact HB.out | apply below_alloc | apply pw_below_drewN | apply below_drew1 | refine below_set ?_ GE129.out | refine below_set ?_ GE130.out) | exact HB.out)) hb); clear BK129; clear BK130; clear HB; have BK129 := n0_; have BK130 := n1_; have HB := n2_; clear n0_ n1_ n2_; (try clear hb); (try clear hb2); (try clear hk); (try clear hi)))
        go_meet
        case rel => exact ⟨_, (true), (by first | rfl | (simp; done) | (simp [*]; done)), H', ⟨by first | omega | exact Nat.le_refl _⟩, ⟨by (with_reducible repeat (first | refine blk_drewN ?_ _ | refine blk_drew ?_ | refine blk_alloc ?_ _)); exact BK129.out⟩, ⟨by (with_reducible repeat (first | refine blk_drewN ?_ _ | refine blk_drew ?_ | refine blk_alloc ?_ _)); exact BK130.out⟩, ⟨by repeat (first | (with_reducible first | exact HB.out | apply below_alloc | apply pw_below_drewN | apply below_drew1 | refine below_set ?_ GE129.out | refine below_set ?_ GE130.out) | exact HB.out)⟩⟩
    · replace c7 := Bool.eq_false_iff.mpr c7
      subst c7
      have H1 : (purlieuref02_Subset.j0 k true a0_0 l0_1 a1_0 l1_1) = some r := by rw [if_neg (show ¬ (false = true) by decide)] at H; exact H
      clear H
      have H := H1
      clear H1
      have H' := Aside0.mk H
      clear H
      have hnb29 := NB129_130.out
      have hnc29 := NB130_129.out
      have hcz30_0 : w5.cell? ⟨gb129, 0, none⟩ = some (.bool a0_0) := (blk_cell BK129.out 0).trans rfl
      have hcz30_1 : w5.cell? ⟨gb129, 1, none⟩ = some (.slice A0_1 l0_1.length c0_1) := (blk_cell BK129.out 1).trans rfl
      have hfz30_0 := blk_frozen BK129.out 0
      have hfz30_1 := blk_frozen BK129.out 1
      go_wp2_with (first | ((with_reducible refine gate_callee (f := 32) rfl ?_); refine goesL_ (some 7) rfl rfl Try.func32 (by kernel_rfl) rfl #[.agg #[.bool a0_0, .slice A0_1 l0_1.length c0_1]] rfl (by (try simp only [List.map_toArray, List.map_cons, List.map_nil]); first | done | rfl | (simp only [List.length_drop, List.length_take]; rfl)) ?_; (with_reducible refine (purlieuref02_Can.calls k a0_0 _ _ l0_1 false _ ?side1 ?side2 A6.out).mono ?_); (case side1 => repeat (first | exact (Kd.C_below HR0_1.out HB.out) | (with_reducible refine Kd.C_alloc ?_ _) | (with_reducible refine Kd.C_drewN ?_ _) | (with_reducible refine Kd.C_drew ?_))); (case side2 => exact HC0_1.out); rintro e w31 ⟨rfl, hb⟩; refine ⟨_, rfl, ?_⟩; have n0_ := Aside0.mk (blk_below (g := gb129) (o := .cells #[.bool a0_0, .slice A0_1 l0_1.length c0_1] 26 (0, 0)) (by (with_reducible repeat (first | refine blk_drewN ?_ _ | refine blk_drew ?_ | refine blk_alloc ?_ _)); exact BK129.out) hb); have n1_ := Aside0.mk (blk_below (g := gb130) (o := .cells #[.bool a1_0, .slice A1_1 l1_1.length c1_1] 26 (0, 0)) (by (with_reducible repeat (first | refine blk_drewN ?_ _ | refine blk_drew ?_ | refine blk_alloc ?_ _)); exact BK130.out) hb); have n2_ := Aside0.mk (below_step (by repeat (first | (with_reducible first | exact HB.out | apply below_alloc | apply pw_below_drewN | apply below_drew1 | refine below_set ?_ GE129.out | refine below_set ?_ GE130.out) | exact HB.out)) hb); clear BK129; clear BK130; clear HB; have BK129 := n0_; have BK130 := n1_; have HB := n2_; clear n0_ n1_ n2_; (try clear hb); (try clear hb2); (try clear hk); (try clear hi)))
      go_meet
      case rel => exact ⟨_, (true), (by first | rfl | (simp; done) | (simp [*]; done)), H', ⟨by first | omega | exact Nat.le_refl _⟩, ⟨by (with_reducible repeat (first | refine blk_drewN ?_ _ | refine blk_drew ?_ | refine blk_alloc ?_ _)); exact BK129.out⟩, ⟨by (with_reducible repeat (first | refine blk_drewN ?_ _ | refine blk_drew ?_ | refine blk_alloc ?_ _)); exact BK130.out⟩, ⟨by repeat (first | (with_reducible first | exact HB.out | apply below_alloc | apply pw_below_drewN | apply below_drew1 | refine below_set ?_ GE129.out | refine below_set ?_ GE130.out) | exact HB.out)⟩⟩
  case rest =>
    clear HC3
    try clear c1
    try clear c2
    try clear p2
    try clear c3
    try clear c4
    try clear c7
    try clear c9
    try clear c10
    try clear c11
    try clear c18
    try clear c24
    try clear c29
    try clear hcz12_0
    try clear hcz12_1
    try clear hcz14_0
    try clear hcz14_1
    try clear hcz16_0
    try clear hcz16_1
    try clear hcz17_0
    try clear hcz17_1
    try clear hcz19_0
    try clear hcz19_1
    try clear hcz21_0
    try clear hcz21_1
    try clear hcz23_0
    try clear hcz23_1
    try clear hcz25_0
    try clear hcz25_1
    try clear hcz27_0
    try clear hcz27_1
    try clear hcz30_0
    try clear hcz30_1
    try clear hfz12_0
    try clear hfz12_1
    try clear hfz14_0
    try clear hfz14_1
    try clear hfz16_0
    try clear hfz16_1
    try clear hfz17_0
    try clear hfz17_1
    try clear hfz19_0
    try clear hfz19_1
    try clear hfz21_0
    try clear hfz21_1
    try clear hfz23_0
    try clear hfz23_1
    try clear hfz25_0
    try clear hfz25_1
    try clear hfz27_0
    try clear hfz27_1
    try clear hfz30_0
    try clear hfz30_1
    obtain ⟨kq, x22_2, rfl, HA, HJ2, BK129, BK130, HB⟩ := hcut
    cases kq with
    | zero => exact absurd HA.out (by simp [purlieuref02_Subset.j0])
    | succ kj2 =>
      have H := HA.out
      clear HA
      simp only [purlieuref02_Subset.j0] at H
      by_cases c32 : x22_2 = true
      · subst c32
        have H1 : (some false) = some r := by rw [if_pos rfl] at H; exact H
        clear H
        have H := H1
        clear H1
        obtain rfl := Option.some.inj H
        go_wp2
        go_ret
        exact ⟨by first | rfl | (simp [errW_none, errW_some] <;> rfl) | (simp [*, errW_none, errW_some] <;> rfl), by repeat (first | (with_reducible first | exact HB.out | apply below_alloc | apply pw_below_drewN | apply below_drew1 | refine below_set ?_ GE129.out | refine below_set ?_ GE130.out) | exact HB.out)⟩
      · replace c32 := Bool.eq_false_iff.mpr c32
        subst c32
        have H1 : (purlieuref02_Subset.l0 kj2 0 a0_0 l0_1 a1_0 l1_1) = some r := by rw [if_neg (show ¬ (false = true) by decide)] at H; exact H
        clear H
        have H := H1
        clear H1
        have H' := Aside0.mk H
        clear H
        go_wp2
        go_loopg [5] kj2 (fun kq v5 w' => ∃ (x5_2 : Int), v5 = .int .i64 x5_2 ∧ Aside0 (purlieuref02_Subset.l0 kq x5_2 a0_0 l0_1 a1_0 l1_1 = some r) ∧ Aside0 (kq ≤ kj2) ∧ Aside0 (w'.heap[gb129]? = some (.cells #[.bool a0_0, (.slice A0_1 l0_1.length c0_1)] 26 (0, 0))) ∧ Aside0 (w'.heap[gb130]? = some (.cells #[.bool a1_0, (.slice A1_1 l1_1.length c1_1)] 26 (0, 0))) ∧ Aside0 (Below w.heap.size w w'))
        case atStart => exact ⟨(0), (by first | rfl | (simp; done) | (simp [*]; done)), H', ⟨Nat.le_refl _⟩, ⟨by (with_reducible repeat (first | refine blk_drewN ?_ _ | refine blk_drew ?_ | refine blk_alloc ?_ _)); exact BK129.out⟩, ⟨by (with_reducible repeat (first | refine blk_drewN ?_ _ | refine blk_drew ?_ | refine blk_alloc ?_ _)); exact BK130.out⟩, ⟨by repeat (first | (with_reducible first | exact HB.out | apply below_alloc | apply pw_below_drewN | apply below_drew1 | refine below_set ?_ GE129.out | refine below_set ?_ GE130.out) | exact HB.out)⟩⟩
        case round =>
          clear H'
          try clear c1
          try clear c2
          try clear p2
          try clear c3
          try clear c4
          try clear c7
          try clear c9
          try clear c10
          try clear c11
          try clear c18
          try clear c24
          try clear c29
          try clear c32
          try clear hcz12_0
          try clear hcz12_1
          try clear hcz14_0
          try clear hcz14_1
          try clear hcz16_0
          try clear hcz16_1
          try clear hcz17_0
          try clear hcz17_1
          try clear hcz19_0
          try clear hcz19_1
          try clear hcz21_0
          try clear hcz21_1
          try clear hcz23_0
          try clear hcz23_1
          try clear hcz25_0
          try clear hcz25_1
          try clear hcz27_0
          try clear hcz27_1
          try clear hcz30_0
          try clear hcz30_1
          try clear hfz12_0
          try clear hfz12_1
          try clear hfz14_0
          try clear hfz14_1
          try clear hfz16_0
          try clear hfz16_1
          try clear hfz17_0
          try clear hfz17_1
          try clear hfz19_0
          try clear hfz19_1
          try clear hfz21_0
          try clear hfz21_1
          try clear hfz23_0
          try clear hfz23_1
          try clear hfz25_0
          try clear hfz25_1
          try clear hfz27_0
          try clear hfz27_1
          try clear hfz30_0
          try clear hfz30_1
          try clear p2
          obtain ⟨x5_2, rfl, HA, HK2, BK129, BK130, HB⟩ := hrel
          cases gk with
          | zero => exact absurd HA.out (by simp [purlieuref02_Subset.l0])
          | succ k2 =>
            have H := HA.out
            clear HA
            simp only [purlieuref02_Subset.l0] at H
            by_cases c33 : x5_2 < (l0_1.length : Int)
            · rw [if_pos c33] at H
              have c33b0 : decide (x5_2 < (l0_1.length : Int)) = true := decide_eq_true c33
              clear c33
              by_cases c34 : 0 ≤ x5_2
              · rw [if_pos c34] at H
                have c34b0 : decide (0 ≤ x5_2) = true := decide_eq_true c34
                clear c34
                replace H := Option.bind_eq_some_iff.mp H
                obtain ⟨t134, A350, H⟩ := H
                replace H : (if t134 = true then (purlieuref02_Subset.l0 k2 (wrap64 (x5_2 + 1)) a0_0 l0_1 a1_0 l1_1) else (some false)) = some r := H
                have A35 := Aside0.mk A350
                clear A350
                by_cases c36 : t134 = true
                · subst c36
                  have H1 : (purlieuref02_Subset.l0 k2 (wrap64 (x5_2 + 1)) a0_0 l0_1 a1_0 l1_1) = some r := by rw [if_pos rfl] at H; exact H
                  clear H
                  have H := H1
                  clear H1
                  have H' := Aside0.mk H
                  clear H
                  have hnb37 := NB129_130.out
                  have hnc37 := NB130_129.out
                  have hcz38_0 : wr.cell? ⟨gb129, 0, none⟩ = some (.bool a0_0) := (blk_cell BK129.out 0).trans rfl
                  have hcz38_1 : wr.cell? ⟨gb129, 1, none⟩ = some (.slice A0_1 l0_1.length c0_1) := (blk_cell BK129.out 1).trans rfl
                  have hfz38_0 := blk_frozen BK129.out 0
                  have hfz38_1 := blk_frozen BK129.out 1
                  try go_wp2
                  have n0_ := Aside0.mk (blk_drew BK129.out)
                  have n1_ := Aside0.mk (blk_drew BK130.out)
                  have n2_ := Aside0.mk (below_drew1 HB.out)
                  clear BK129
                  clear BK130
                  clear HB
                  have BK129 := n0_
                  have BK130 := n1_
                  have HB := n2_
                  clear n0_ n1_ n2_
                  have p133 : 0 ≤ (x5_2 : Int) := of_decide_eq_true (by first | (with_reducible assumption) | assumption)
                  have q133 : x5_2 < (l0_1.length : Int) := of_decide_eq_true (by first | (with_reducible assumption) | assumption)
                  obtain ⟨ad133, e133, hx133_0⟩ := Kd.at_int HR0_1.out x5_2 p133 q133
                  have hw133_0 := hx133_0
                  cases e133
                  replace hx133_0 := (HB.out.cell (World.block_lt_of_cell? w _ hx133_0)).trans hx133_0
                  replace p133 := eq_true p133
                  replace q133 := eq_true q133
                  refine start_ (n := 8) (S := fun w' => w'.cell? ⟨gb130, 0, none⟩ = some (.bool a1_0) ∧ w'.cell? ⟨gb130, 1, none⟩ = some (.slice A1_1 l1_1.length c1_1) ∧ w'.cell? ⟨gb129, 0, none⟩ = some (.bool a0_0) ∧ w'.cell? ⟨gb129, 1, none⟩ = some (.slice (some ad133) l0_1.length c0_1) ∧ w'.cell? (ad133.add (x5_2).toNat) = some (.int .i64 (rd l0_1 x5_2))) (ds := []) #[false, false, false, false, false, false, false, false] (by kernel_rfl) rfl rfl ⟨(blk_cell BK130.out 0).trans rfl, (blk_cell BK130.out 1).trans rfl, (blk_cell BK129.out 0).trans rfl, (blk_cell BK129.out 1).trans rfl, ((HB.out.cell (World.block_lt_of_cell? w _ hw133_0)).trans hw133_0)⟩ (fun hHeld => ?_); refine with_tabW purlieuref02_Subset.tab6 purlieuref02_Subset.bits6 (fun HT_ HW_ => ?_)
                  generalize wr.drew = w39 at BK129 BK130 HB hx133_0 hHeld ⊢
                  refine pure_ (i := 1) (N := some 31) (v := ?_) (a' := ?_) #[false, true, false, false, false, false, false, false] rfl rfl (any_of HT_.out (by kernel_rfl)) (fun _ _ _ h => h) (Or.inl ⟨by rfl, ?_⟩) ?_ ?_
                  rotate_left
                  · intro w'
                    go_simp
                    with_reducible rfl
                  rotate_left
                  · simp only [Act.put, List.setIfInBounds_toArray, List.set_cons_zero, List.set_cons_succ, i64_w, i32_w]
                    rfl
                  refine pure_ (i := 3) (N := some 33) (v := ?_) (a' := ?_) #[false, true, false, true, false, false, false, false] rfl rfl (any_of HT_.out (by kernel_rfl)) (fun _ _ _ h => h) (Or.inl ⟨by rfl, ?_⟩) ?_ ?_
                  rotate_left
                  · intro w'
                    go_simp
                    with_reducible rfl
                  rotate_left
                  · simp only [Act.put, List.setIfInBounds_toArray, List.set_cons_zero, List.set_cons_succ, i64_w, i32_w]
                    rfl
                  refine take_ (i := 0) (N := some 30) (v := ?_) (a' := ?_) #[true, true, false, true, false, false, false, false] rfl rfl (take_ofW HT_.out HW_.out (by kernel_rfl)) (fun _ _ _ h => h) (Or.inl ⟨by rfl, ?_⟩) hHeld ?_ ?_
                  rotate_left
                  · rintro w' ⟨s0, s1, s2, s3, s4⟩
                    go_simp
                    with_reducible rfl
                  rotate_left
                  · simp only [Act.put, List.setIfInBounds_toArray, List.set_cons_zero, List.set_cons_succ, i64_w, i32_w]
                    rfl
                  refine take_ (i := 2) (N := some 32) (v := ?_) (a' := ?_) #[true, true, true, true, false, false, false, false] rfl rfl (take_ofW HT_.out HW_.out (by kernel_rfl)) (fun _ _ _ h => h) (Or.inl ⟨by rfl, ?_⟩) hHeld ?_ ?_
                  rotate_left
                  · rintro w' ⟨s0, s1, s2, s3, s4⟩
                    go_simp
                    with_reducible rfl
                  rotate_left
                  · simp only [Act.put, List.setIfInBounds_toArray, List.set_cons_zero, List.set_cons_succ, i64_w, i32_w]
                    rfl
                  refine pure_ (i := 4) (N := some 34) (v := ?_) (a' := ?_) #[true, true, true, true, true, false, false, false] rfl rfl (any_of HT_.out (by kernel_rfl)) (fun _ _ _ h => h) (Or.inl ⟨by rfl, ?_⟩) ?_ ?_
                  rotate_left
                  · intro w'
                    go_simp
                    with_reducible rfl
                  rotate_left
                  · simp only [Act.put, List.setIfInBounds_toArray, List.set_cons_zero, List.set_cons_succ, i64_w, i32_w]
                    rfl
                  refine take_ (i := 5) (N := some 35) (v := ?_) (a' := ?_) #[true, true, true, true, true, true, false, false] rfl rfl (take_ofW HT_.out HW_.out (by kernel_rfl)) (fun _ _ _ h => h) (Or.inl ⟨by rfl, ?_⟩) hHeld ?_ ?_
                  rotate_left
                  · rintro w' ⟨s0, s1, s2, s3, s4⟩
                    go_simp
                    with_reducible rfl
                  rotate_left
                  · simp only [Act.put, List.setIfInBounds_toArray, List.set_cons_zero, List.set_cons_succ, i64_w, i32_w]
                    rfl
                  refine one_ (i := 6) (N := some 36) #[true, true, true, true, true, true, true, false] rfl rfl (one_of HT_.out (by kernel_rfl)) (by decide) (fun K hK => ?_)
                  refine goes_ Try.func60 (by kernel_rfl) rfl #[.agg #[.bool a1_0, .slice A1_1 l1_1.length c1_1], .int .i64 (rd l0_1 x5_2)] (by rfl) rfl rfl (by (try simp only [List.map_toArray, List.map_cons, List.map_nil]); first | done | rfl | (simp only [List.length_drop, List.length_take]; rfl)) ?_
                  with_reducible refine (purlieuref02_Has.calls k2 a1_0 _ _ l1_1 (rd l0_1 x5_2) true _ ?side1 ?side2 A35.out).mono ?_
                  (case side1 => repeat (first | exact (Kd.C_below HR1_1.out HB.out) | (with_reducible refine Kd.C_alloc ?_ _) | (with_reducible refine Kd.C_drewN ?_ _) | (with_reducible refine Kd.C_drew ?_)))
                  (case side2 => exact HC1_1.out)
                  rintro e w40 ⟨rfl, hb⟩
                  refine ⟨_, rfl, ?_⟩
                  have n0_ := Aside0.mk (blk_below (g := gb129) (o := .cells #[.bool a0_0, .slice (some ad133) l0_1.length c0_1] 26 (0, 0)) (by (with_reducible repeat (first | refine blk_drewN ?_ _ | refine blk_drew ?_ | refine blk_alloc ?_ _)); exact BK129.out) hb)
                  have n1_ := Aside0.mk (blk_below (g := gb130) (o := .cells #[.bool a1_0, .slice A1_1 l1_1.length c1_1] 26 (0, 0)) (by (with_reducible repeat (first | refine blk_drewN ?_ _ | refine blk_drew ?_ | refine blk_alloc ?_ _)); exact BK130.out) hb)
                  have n2_ := Aside0.mk (below_step (by repeat (first | (with_reducible first | exact HB.out | apply below_alloc | apply pw_below_drewN | apply below_drew1 | refine below_set ?_ GE129.out | refine below_set ?_ GE130.out) | exact HB.out)) hb)
                  clear BK129
                  clear BK130
                  clear HB
                  have BK129 := n0_
                  have BK130 := n1_
                  have HB := n2_
                  clear n0_ n1_ n2_
                  (try clear hb)
                  (try clear hb2)
                  (try clear hk)
                  (try clear hi)
                  refine hK.out _ _ ⟨(blk_cell BK130.out 0).trans rfl, (blk_cell BK130.out 1).trans rfl, (blk_cell BK129.out 0).trans rfl, (blk_cell BK129.out 1).trans rfl, ((HB.out.cell (World.block_lt_of_cell? w _ hw133_0)).trans hw133_0)⟩ (fun hHeld => ?_)
                  clear hK K
                  refine norm_ (a' := ?_) ?_ ?_
                  rotate_left
                  · show Act.put _ (some 36) _ = _
                    simp only [Act.put, List.setIfInBounds_toArray, List.set_cons_zero, List.set_cons_succ, i64_w, i32_w]
                    rfl
                  refine pure_ (i := 7) (N := some 37) (v := ?_) (a' := ?_) #[true, true, true, true, true, true, true, true] rfl rfl (any_of HT_.out (by kernel_rfl)) (fun _ _ _ h => h) (Or.inl ⟨by rfl, ?_⟩) ?_ ?_
                  rotate_left
                  · intro w'
                    go_simp
                    with_reducible rfl
                  rotate_left
                  · simp only [Act.put, List.setIfInBounds_toArray, List.set_cons_zero, List.set_cons_succ, i64_w, i32_w]
                    rfl
                  refine done_ (done_of HT_.out (by kernel_rfl)) ?_
                  try go_wp2
                  go_roundg k2
                  case measure => have := HJ2.out; have := HK2.out; omega
                  case rel => exact ⟨(wrap64 (x5_2 + 1)), (by first | rfl | (simp; done) | (simp [*]; done)), H', ⟨by have := HJ2.out; have := HK2.out; omega⟩, ⟨by (with_reducible repeat (first | refine blk_drewN ?_ _ | refine blk_drew ?_ | refine blk_alloc ?_ _)); exact BK129.out⟩, ⟨by (with_reducible repeat (first | refine blk_drewN ?_ _ | refine blk_drew ?_ | refine blk_alloc ?_ _)); exact BK130.out⟩, ⟨by repeat (first | (with_reducible first | exact HB.out | apply below_alloc | apply pw_below_drewN | apply below_drew1 | refine below_set ?_ GE129.out | refine below_set ?_ GE130.out) | exact HB.out)⟩⟩
                · replace c36 := Bool.eq_false_iff.mpr c36
                  subst c36
                  have H1 : (some false) = some r := by rw [if_neg (show ¬ (false = true) by decide)] at H; exact H
                  clear H
                  have H := H1
                  clear H1
                  obtain rfl := Option.some.inj H
                  have hnb41 := NB129_130.out
                  have hnc41 := NB130_129.out
                  have hcz42_0 : wr.cell? ⟨gb129, 0, none⟩ = some (.bool a0_0) := (blk_cell BK129.out 0).trans rfl
                  have hcz42_1 : wr.cell? ⟨gb129, 1, none⟩ = some (.slice A0_1 l0_1.length c0_1) := (blk_cell BK129.out 1).trans rfl
                  have hfz42_0 := blk_frozen BK129.out 0
                  have hfz42_1 := blk_frozen BK129.out 1
                  try go_wp2
                  have n0_ := Aside0.mk (blk_drew BK129.out)
                  have n1_ := Aside0.mk (blk_drew BK130.out)
                  have n2_ := Aside0.mk (below_drew1 HB.out)
                  clear BK129
                  clear BK130
                  clear HB
                  have BK129 := n0_
                  have BK130 := n1_
                  have HB := n2_
                  clear n0_ n1_ n2_
                  have p133 : 0 ≤ (x5_2 : Int) := of_decide_eq_true (by first | (with_reducible assumption) | assumption)
                  have q133 : x5_2 < (l0_1.length : Int) := of_decide_eq_true (by first | (with_reducible assumption) | assumption)
                  obtain ⟨ad133, e133, hx133_0⟩ := Kd.at_int HR0_1.out x5_2 p133 q133
                  have hw133_0 := hx133_0
                  cases e133
                  replace hx133_0 := (HB.out.cell (World.block_lt_of_cell? w _ hx133_0)).trans hx133_0
                  replace p133 := eq_true p133
                  replace q133 := eq_true q133
                  refine start_ (n := 8) (S := fun w' => w'.cell? ⟨gb130, 0, none⟩ = some (.bool a1_0) ∧ w'.cell? ⟨gb130, 1, none⟩ = some (.slice A1_1 l1_1.length c1_1) ∧ w'.cell? ⟨gb129, 0, none⟩ = some (.bool a0_0) ∧ w'.cell? ⟨gb129, 1, none⟩ = some (.slice (some ad133) l0_1.length c0_1) ∧ w'.cell? (ad133.add (x5_2).toNat) = some (.int .i64 (rd l0_1 x5_2))) (ds := []) #[false, false, false, false, false, false, false, false] (by kernel_rfl) rfl rfl ⟨(blk_cell BK130.out 0).trans rfl, (blk_cell BK130.out 1).trans rfl, (blk_cell BK129.out 0).trans rfl, (blk_cell BK129.out 1).trans rfl, ((HB.out.cell (World.block_lt_of_cell? w _ hw133_0)).trans hw133_0)⟩ (fun hHeld => ?_); refine with_tabW purlieuref02_Subset.tab6 purlieuref02_Subset.bits6 (fun HT_ HW_ => ?_)
                  generalize wr.drew = w43 at BK129 BK130 HB hx133_0 hHeld ⊢
                  refine pure_ (i := 1) (N := some 31) (v := ?_) (a' := ?_) #[false, true, false, false, false, false, false, false] rfl rfl (any_of HT_.out (by kernel_rfl)) (fun _ _ _ h => h) (Or.inl ⟨by rfl, ?_⟩) ?_ ?_
                  rotate_left
                  · intro w'
                    go_simp
                    with_reducible rfl
                  rotate_left
                  · simp only [Act.put, List.setIfInBounds_toArray, List.set_cons_zero, List.set_cons_succ, i64_w, i32_w]
                    rfl
                  refine pure_ (i := 3) (N := some 33) (v := ?_) (a' := ?_) #[false, true, false, true, false, false, false, false] rfl rfl (any_of HT_.out (by kernel_rfl)) (fun _ _ _ h => h) (Or.inl ⟨by rfl, ?_⟩) ?_ ?_
                  rotate_left
                  · intro w'
                    go_simp
                    with_reducible rfl
                  rotate_left
                  · simp only [Act.put, List.setIfInBounds_toArray, List.set_cons_zero, List.set_cons_succ, i64_w, i32_w]
                    rfl
                  refine take_ (i := 0) (N := some 30) (v := ?_) (a' := ?_) #[true, true, false, true, false, false, false, false] rfl rfl (take_ofW HT_.out HW_.out (by kernel_rfl)) (fun _ _ _ h => h) (Or.inl ⟨by rfl, ?_⟩) hHeld ?_ ?_
                  rotate_left
                  · rintro w' ⟨s0, s1, s2, s3, s4⟩
                    go_simp
                    with_reducible rfl
                  rotate_left
                  · simp only [Act.put, List.setIfInBounds_toArray, List.set_cons_zero, List.set_cons_succ, i64_w, i32_w]
                    rfl
                  refine take_ (i := 2) (N := some 32) (v := ?_) (a' := ?_) #[true, true, true, true, false, false, false, false] rfl rfl (take_ofW HT_.out HW_.out (by kernel_rfl)) (fun _ _ _ h => h) (Or.inl ⟨by rfl, ?_⟩) hHeld ?_ ?_
                  rotate_left
                  · rintro w' ⟨s0, s1, s2, s3, s4⟩
                    go_simp
                    with_reducible rfl
                  rotate_left
                  · simp only [Act.put, List.setIfInBounds_toArray, List.set_cons_zero, List.set_cons_succ, i64_w, i32_w]
                    rfl
                  refine pure_ (i := 4) (N := some 34) (v := ?_) (a' := ?_) #[true, true, true, true, true, false, false, false] rfl rfl (any_of HT_.out (by kernel_rfl)) (fun _ _ _ h => h) (Or.inl ⟨by rfl, ?_⟩) ?_ ?_
                  rotate_left
                  · intro w'
                    go_simp
                    with_reducible rfl
                  rotate_left
                  · simp only [Act.put, List.setIfInBounds_toArray, List.set_cons_zero, List.set_cons_succ, i64_w, i32_w]
                    rfl
                  refine take_ (i := 5) (N := some 35) (v := ?_) (a' := ?_) #[true, true, true, true, true, true, false, false] rfl rfl (take_ofW HT_.out HW_.out (by kernel_rfl)) (fun _ _ _ h => h) (Or.inl ⟨by rfl, ?_⟩) hHeld ?_ ?_
                  rotate_left
                  · rintro w' ⟨s0, s1, s2, s3, s4⟩
                    go_simp
                    with_reducible rfl
                  rotate_left
                  · simp only [Act.put, List.setIfInBounds_toArray, List.set_cons_zero, List.set_cons_succ, i64_w, i32_w]
                    rfl
                  refine one_ (i := 6) (N := some 36) #[true, true, true, true, true, true, true, false] rfl rfl (one_of HT_.out (by kernel_rfl)) (by decide) (fun K hK => ?_)
                  refine goes_ Try.func60 (by kernel_rfl) rfl #[.agg #[.bool a1_0, .slice A1_1 l1_1.length c1_1], .int .i64 (rd l0_1 x5_2)] (by rfl) rfl rfl (by (try simp only [List.map_toArray, List.map_cons, List.map_nil]); first | done | rfl | (simp only [List.length_drop, List.length_take]; rfl)) ?_
                  with_reducible refine (purlieuref02_Has.calls k2 a1_0 _ _ l1_1 (rd l0_1 x5_2) false _ ?side1 ?side2 A35.out).mono ?_
                  (case side1 => repeat (first | exact (Kd.C_below HR1_1.out HB.out) | (with_reducible refine Kd.C_alloc ?_ _) | (with_reducible refine Kd.C_drewN ?_ _) | (with_reducible refine Kd.C_drew ?_)))
                  (case side2 => exact HC1_1.out)
                  rintro e w44 ⟨rfl, hb⟩
                  refine ⟨_, rfl, ?_⟩
                  have n0_ := Aside0.mk (blk_below (g := gb129) (o := .cells #[.bool a0_0, .slice (some ad133) l0_1.length c0_1] 26 (0, 0)) (by (with_reducible repeat (first | refine blk_drewN ?_ _ | refine blk_drew ?_ | refine blk_alloc ?_ _)); exact BK129.out) hb)
                  have n1_ := Aside0.mk (blk_below (g := gb130) (o := .cells #[.bool a1_0, .slice A1_1 l1_1.length c1_1] 26 (0, 0)) (by (with_reducible repeat (first | refine blk_drewN ?_ _ | refine blk_drew ?_ | refine blk_alloc ?_ _)); exact BK130.out) hb)
                  have n2_ := Aside0.mk (below_step (by repeat (first | (with_reducible first | exact HB.out | apply below_alloc | apply pw_below_drewN | apply below_drew1 | refine below_set ?_ GE129.out | refine below_set ?_ GE130.out) | exact HB.out)) hb)
                  clear BK129
                  clear BK130
                  clear HB
                  have BK129 := n0_
                  have BK130 := n1_
                  have HB := n2_
                  clear n0_ n1_ n2_
                  (try clear hb)
                  (try clear hb2)
                  (try clear hk)
                  (try clear hi)
                  refine hK.out _ _ ⟨(blk_cell BK130.out 0).trans rfl, (blk_cell BK130.out 1).trans rfl, (blk_cell BK129.out 0).trans rfl, (blk_cell BK129.out 1).trans rfl, ((HB.out.cell (World.block_lt_of_cell? w _ hw133_0)).trans hw133_0)⟩ (fun hHeld => ?_)
                  clear hK K
                  refine norm_ (a' := ?_) ?_ ?_
                  rotate_left
                  · show Act.put _ (some 36) _ = _
                    simp only [Act.put, List.setIfInBounds_toArray, List.set_cons_zero, List.set_cons_succ, i64_w, i32_w]
                    rfl
                  refine pure_ (i := 7) (N := some 37) (v := ?_) (a' := ?_) #[true, true, true, true, true, true, true, true] rfl rfl (any_of HT_.out (by kernel_rfl)) (fun _ _ _ h => h) (Or.inl ⟨by rfl, ?_⟩) ?_ ?_
                  rotate_left
                  · intro w'
                    go_simp
                    with_reducible rfl
                  rotate_left
                  · simp only [Act.put, List.setIfInBounds_toArray, List.set_cons_zero, List.set_cons_succ, i64_w, i32_w]
                    rfl
                  refine done_ (done_of HT_.out (by kernel_rfl)) ?_
                  try go_wp2
                  go_ret
                  exact ⟨by first | rfl | (simp [errW_none, errW_some] <;> rfl) | (simp [*, errW_none, errW_some] <;> rfl), by repeat (first | (with_reducible first | exact HB.out | apply below_alloc | apply pw_below_drewN | apply below_drew1 | refine below_set ?_ GE129.out | refine below_set ?_ GE130.out) | exact HB.out)⟩
              · rw [if_neg c34] at H
                exact absurd H (by simp)
            · rw [if_neg c33] at H
              have c33b0 : decide (x5_2 < (l0_1.length : Int)) = false := decide_eq_false c33
              clear c33
              obtain rfl := Option.some.inj H
              have hnb45 := NB129_130.out
              have hnc45 := NB130_129.out
              have hcz46_0 : wr.cell? ⟨gb129, 0, none⟩ = some (.bool a0_0) := (blk_cell BK129.out 0).trans rfl
              have hcz46_1 : wr.cell? ⟨gb129, 1, none⟩ = some (.slice A0_1 l0_1.length c0_1) := (blk_cell BK129.out 1).trans rfl
              have hfz46_0 := blk_frozen BK129.out 0
              have hfz46_1 := blk_frozen BK129.out 1
              go_wp2
              go_ret
              exact ⟨by first | rfl | (simp [errW_none, errW_some] <;> rfl) | (simp [*, errW_none, errW_some] <;> rfl), by repeat (first | (with_reducible first | exact HB.out | apply below_alloc | apply pw_below_drewN | apply below_drew1 | refine below_set ?_ GE129.out | refine below_set ?_ GE130.out) | exact HB.out)⟩
end Go.Proofs.Ytilfalpfanaanaa.PA

namespace Go.Proofs.Ytilfalpfanaanaa.PA
open Go.RowKit Go.Proofs.YtilfalpfanaanaaW.PrintWords Go.Proofs.YtilfalpfanaanaaW.PrintLast Go.Proofs.YtilfalpfanaanaaW.PrintMore
attribute [local go_sem] max2_int min2_int max_two min_two max_three min_three max_four min_four   -- for this text's walks alone
def purlieuref02_Limit.j0 : Nat → Bool → Bool → List Int → Bool → List Int → Option (Bool × List Int × Int)
  | 0, _, _, _, _, _ => none
  | k + 1, x19, x217000, x217001, x224000, x224001 => if x19 = true then (some (false, ([] : List Int), 22)) else ((purlieuref02_Subset.f k x224000 x224001 x217000 x217001).bind fun t225 => (if t225 = true then (some (x224000, x224001, 0)) else (some (false, ([] : List Int), 93))))
def purlieuref02_Limit.f (k : Nat) (a0_0 : Bool) (l0_1 : List Int) (l1 : List Int) : Option (Bool × List Int × Int) := (purlieuref02_Make.f l1).bind fun bt218 => (if bt218.2.2 = 0 then ((purlieuref02_Can.f k a0_0 l0_1).bind fun t224 => (purlieuref02_Limit.j0 k (!t224) a0_0 l0_1 bt218.1 bt218.2.1)) else (purlieuref02_Limit.j0 k true a0_0 l0_1 bt218.1 bt218.2.1))
set_option maxHeartbeats 8000000 in
set_option maxRecDepth 100000 in
theorem purlieuref02_Limit.calls (k : Nat) (a0_0 : Bool) (A0_1 : Option Addr) (c0_1 : Nat) (l0_1 : List Int) (A1 : Option Addr) (c1 : Nat) (l1 : List Int) (r1 : Bool) (r2 : List Int) (r3 : Int) (w : World) (hr0_1 : Kd.C (Kd.int .i64) w A0_1 l0_1.length l0_1) (hc0_1 : l0_1.length ≤ c0_1) (hr1 : Kd.C (Kd.int .i64) w A1 l1.length l1) (hc1 : l1.length ≤ c1) (h : purlieuref02_Limit.f k a0_0 l0_1 l1 = some (r1, r2, r3)) :
    Calls Try.prog 61 #[.agg #[.bool a0_0, .slice A0_1 l0_1.length c0_1], .slice A1 l1.length c1] w fun e w' => ∃ v1_ : Value, e = .returned (.tuple #[.agg #[.bool r1, v1_], .int .i64 r3]) ∧ Kd.R (Kd.int .i64) 3 w' w.heap.size (fun _ => True) v1_ r2 ∧ Below w.heap.size w w' := by
  have hu26 := Try.underlying26
  have HR0_1 := Aside0.mk hr0_1
  have HC0_1 := Aside0.mk hc0_1
  clear hr0_1 hc0_1
  have HR1 := Aside0.mk hr1
  have HC1 := Aside0.mk hc1
  clear hr1 hc1
  have HB := Aside0.mk (Below.refl w.heap.size w)
  have H : ((purlieuref02_Make.f l1).bind fun bt218 => (if bt218.2.2 = 0 then ((purlieuref02_Can.f k a0_0 l0_1).bind fun t224 => (purlieuref02_Limit.j0 k (!t224) a0_0 l0_1 bt218.1 bt218.2.1)) else (purlieuref02_Limit.j0 k true a0_0 l0_1 bt218.1 bt218.2.1))) = some (r1, r2, r3) := h
  clear h
  replace H := Option.bind_eq_some_iff.mp H
  obtain ⟨⟨t218, t219, t222⟩, A30, H⟩ := H
  replace H : (if t222 = 0 then ((purlieuref02_Can.f k a0_0 l0_1).bind fun t224 => (purlieuref02_Limit.j0 k (!t224) a0_0 l0_1 t218 t219)) else (purlieuref02_Limit.j0 k true a0_0 l0_1 t218 t219)) = some (r1, r2, r3) := H
  have A3 := Aside0.mk A30
  clear A30
  have HC4 := Aside0.mk H
  clear H
  go_enter Try.func61, Try.ntmps61
  go_upto_region 2 with (first | ((with_reducible refine gate_dst (N := 2) rfl ?_); refine box_event ?hg (N := 2) ?hd (cs := #[.bool a0_0, .slice A0_1 l0_1.length c0_1]) (t := 26) ?hr ?_; (case hd => rfl); (case hg => rfl); (case hr => first | (go_simp; done) | (go_simp; rfl)); intro gb216 hg w5 hbox hb; have n0_ := Aside0.mk (below_step (by repeat (first | (with_reducible first | exact HB.out | apply below_alloc | apply pw_below_drewN | apply below_drew1) | exact HB.out)) hb); have n1_ := Aside0.mk (hbox); have n2_ := Aside0.mk ((by rw [hg]; exact (below_size (by repeat (first | (with_reducible first | exact HB.out | apply below_alloc | apply pw_below_drewN | apply below_drew1) | exact HB.out))) : w.heap.size ≤ gb216)); have n3_ := Aside0.mk ((by rw [hg]; exact (below_size (by repeat (first | (with_reducible first | exact HB.out | apply below_alloc | apply pw_below_drewN | apply below_drew1) | exact HB.out))) : w.heap.size ≤ gb216)); clear HB; have HB := n0_; have BK216 := n1_; have GW216 := n2_; have GE216 := n3_; clear n0_ n1_ n2_ n3_; clear hb hbox hg) | ((with_reducible refine gate_dst (N := 4) rfl ?_); refine box_event ?hg (N := 4) ?hd (cs := #[.bool false, .slice none 0 0]) (t := 26) ?hr ?_; (case hd => rfl); (case hg => rfl); (case hr => first | (go_simp; done) | (go_simp; rfl)); intro gb217 hg w6 hbox hb; have n0_ := Aside0.mk (blk_below (g := gb216) (o := .cells #[.bool a0_0, .slice A0_1 l0_1.length c0_1] 26 (0, 0)) (by (with_reducible repeat (first | refine blk_drewN ?_ _ | refine blk_drew ?_ | refine blk_alloc ?_ _)); exact BK216.out) hb); have n1_ := Aside0.mk (below_step (by repeat (first | (with_reducible first | exact HB.out | apply below_alloc | apply pw_below_drewN | apply below_drew1 | refine below_set ?_ GE216.out) | exact HB.out)) hb); have n2_ := Aside0.mk (hbox); have n3_ := Aside0.mk ((by rw [hg]; exact (below_size (by repeat (first | (with_reducible first | exact HB.out | apply below_alloc | apply pw_below_drewN | apply below_drew1 | refine below_set ?_ GE216.out) | exact HB.out))) : w.heap.size ≤ gb217)); have n4_ := Aside0.mk ((by rw [hg]; exact (below_size (by repeat (first | (with_reducible first | exact HB.out | apply below_alloc | apply pw_below_drewN | apply below_drew1 | refine below_set ?_ GE216.out) | exact HB.out))) : w.heap.size ≤ gb217)); have n5_ := Aside0.mk ((by rw [hg]; exact Nat.ne_of_lt (blk_lt (g := gb216) (o := .cells #[.bool a0_0, .slice A0_1 l0_1.length c0_1] 26 (0, 0)) (by (with_reducible repeat (first | refine blk_drewN ?_ _ | refine blk_drew ?_ | refine blk_alloc ?_ _)); exact BK216.out)) : gb216 ≠ gb217)); have n6_ := Aside0.mk ((by rw [hg]; exact Nat.ne_of_gt (blk_lt (g := gb216) (o := .cells #[.bool a0_0, .slice A0_1 l0_1.length c0_1] 26 (0, 0)) (by (with_reducible repeat (first | refine blk_drewN ?_ _ | refine blk_drew ?_ | refine blk_alloc ?_ _)); exact BK216.out)) : gb217 ≠ gb216)); clear BK216; clear HB; have BK216 := n0_; have HB := n1_; have BK217 := n2_; have GW217 := n3_; have GE217 := n4_; have NB216_217 := n5_; have NB217_216 := n6_; clear n0_ n1_ n2_ n3_ n4_ n5_ n6_; clear hb hbox hg) | ((with_reducible refine gate_callee (f := 68) rfl ?_); refine goesL_ (some 10) rfl rfl Try.func68 (by kernel_rfl) rfl #[.slice A1 l1.length c1] rfl (by (try simp only [List.map_toArray, List.map_cons, List.map_nil]); first | done | rfl | (simp only [List.length_drop, List.length_take]; rfl)) ?_; (with_reducible refine (purlieuref02_Make.calls _ _ l1 t218 t219 t222 _ ?side1 ?side2 A3.out).mono ?_); (case side1 => repeat (first | exact (Kd.C_below HR1.out HB.out) | (with_reducible refine Kd.C_alloc ?_ _) | (with_reducible refine Kd.C_drewN ?_ _) | (with_reducible refine Kd.C_drew ?_))); (case side2 => exact HC1.out); rintro e w7 ⟨v220, rfl, ho0, hb⟩; refine ⟨_, rfl, ?_⟩; have n0_ := Aside0.mk (Kd.R_lower ho0 (below_size (by repeat (first | (with_reducible first | exact HB.out | apply below_alloc | apply pw_below_drewN | apply below_drew1 | refine below_set ?_ GE216.out | refine below_set ?_ GE217.out) | exact HB.out)))); have n1_ := Aside0.mk (blk_below (g := gb216) (o := .cells #[.bool a0_0, .slice A0_1 l0_1.length c0_1] 26 (0, 0)) (by (with_reducible repeat (first | refine blk_drewN ?_ _ | refine blk_drew ?_ | refine blk_alloc ?_ _)); exact BK216.out) hb); have n2_ := Aside0.mk (blk_below (g := gb217) (o := .cells #[.bool false, .slice none 0 0] 26 (0, 0)) (by (with_reducible repeat (first | refine blk_drewN ?_ _ | refine blk_drew ?_ | refine blk_alloc ?_ _)); exact BK217.out) hb); have n3_ := Aside0.mk (below_step (by repeat (first | (with_reducible first | exact HB.out | apply below_alloc | apply pw_below_drewN | apply below_drew1 | refine below_set ?_ GE216.out | refine below_set ?_ GE217.out) | exact HB.out)) hb); clear BK216; clear BK217; clear HB; have HO221 := n0_; have BK216 := n1_; have BK217 := n2_; have HB := n3_; clear n0_ n1_ n2_ n3_; (try clear hb); (try clear hb2); (try clear hk); (try clear hi); (try clear ho0)) | ((with_reducible refine gate_dst (N := 6) rfl ?_); refine box_event ?hg (N := 6) ?hd (cs := #[.bool false, .slice none 0 0]) (t := 26) ?hr ?_; (case hd => rfl); (case hg => rfl); (case hr => first | (go_simp; done) | (go_simp; rfl)); intro gb223 hg w8 hbox hb; have n0_ := Aside0.mk (Kd.R_below (by (with_reducible repeat (first | apply Kd.R_alloc | apply Kd.R_drewN | apply Kd.R_drew)); exact HO221.out) hb); have n1_ := Aside0.mk (blk_below (g := gb216) (o := .cells #[.bool a0_0, .slice A0_1 l0_1.length c0_1] 26 (0, 0)) (by (with_reducible repeat (first | refine blk_drewN ?_ _ | refine blk_drew ?_ | refine blk_alloc ?_ _)); exact BK216.out) hb); have n2_ := Aside0.mk (blk_below (g := gb217) (o := .cells #[.bool false, .slice none 0 0] 26 (0, 0)) (by (with_reducible repeat (first | refine blk_drewN ?_ _ | refine blk_drew ?_ | refine blk_alloc ?_ _)); exact BK217.out) hb); have n3_ := Aside0.mk (below_step (by repeat (first | (with_reducible first | exact HB.out | apply below_alloc | apply pw_below_drewN | apply below_drew1 | refine below_set ?_ GE216.out | refine below_set ?_ GE217.out) | exact HB.out)) hb); have n4_ := Aside0.mk (hbox); have n5_ := Aside0.mk ((by rw [hg]; exact (below_size (by repeat (first | (with_reducible first | exact HB.out | apply below_alloc | apply pw_below_drewN | apply below_drew1 | refine below_set ?_ GE216.out | refine below_set ?_ GE217.out) | exact HB.out))) : w.heap.size ≤ gb223)); have n6_ := Aside0.mk ((by rw [hg]; exact (below_size (by repeat (first | (with_reducible first | exact HB.out | apply below_alloc | apply pw_below_drewN | apply below_drew1 | refine below_set ?_ GE216.out | refine below_set ?_ GE217.out) | exact HB.out))) : w.heap.size ≤ gb223)); have n7_ := Aside0.mk ((by rw [hg]; exact Nat.ne_of_lt (blk_lt (g := gb216) (o := .cells #[.bool a0_0, .slice A0_1 l0_1.length c0_1] 26 (0, 0)) (by (with_reducible repeat (first | refine blk_drewN ?_ _ | refine blk_drew ?_ | refine blk_alloc ?_ _)); exact BK216.out)) : gb216 ≠ gb223)); have n8_ := Aside0.mk ((by rw [hg]; exact Nat.ne_of_gt (blk_lt (g := gb216) (o := .cells #[.bool a0_0, .slice A0_1 l0_1.length c0_1] 26 (0, 0)) (by (with_reducible repeat (first | refine blk_drewN ?_ _ | refine blk_drew ?_ | refine blk_alloc ?_ _)); exact BK216.out)) : gb223 ≠ gb216)); have n9_ := Aside0.mk ((by rw [hg]; exact Nat.ne_of_lt (blk_lt (g := gb217) (o := .cells #[.bool false, .slice none 0 0] 26 (0, 0)) (by (with_reducible repeat (first | refine blk_drewN ?_ _ | refine blk_drew ?_ | refine blk_alloc ?_ _)); exact BK217.out)) : gb217 ≠ gb223)); have n10_ := Aside0.mk ((by rw [hg]; exact Nat.ne_of_gt (blk_lt (g := gb217) (o := .cells #[.bool false, .slice none 0 0] 26 (0, 0)) (by (with_reducible repeat (first | refine blk_drewN ?_ _ | refine blk_drew ?_ | refine blk_alloc ?_ _)); exact BK217.out)) : gb223 ≠ gb217)); clear HO221; clear BK216; clear BK217; clear HB; have HO221 := n0_; have BK216 := n1_; have BK217 := n2_; have HB := n3_; have BK223 := n4_; have GW223 := n5_; have GE223 := n6_; have NB216_223 := n7_; have NB223_216 := n8_; have NB217_223 := n9_; have NB223_217 := n10_; clear n0_ n1_ n2_ n3_ n4_ n5_ n6_ n7_ n8_ n9_ n10_; clear hb hbox hg; have hnb9 := NB223_216.out; have hnc9 := NB216_223.out; have hnb10 := NB223_217.out; have hnc10 := NB217_223.out; have hcz11_0 : w8.cell? ⟨gb223, 0, none⟩ = some (.bool false) := (blk_cell BK223.out 0).trans rfl; have hcz11_1 : w8.cell? ⟨gb223, 1, none⟩ = some (.slice none 0 0) := (blk_cell BK223.out 1).trans rfl; have hfz11_0 := blk_frozen BK223.out 0; have hfz11_1 := blk_frozen BK223.out 1; obtain ⟨Ao12, co12, eo12⟩ := Kd.R_slice HO221.out; subst eo12))
  (try simp only [Act.put, List.setIfInBounds_toArray, List.set_cons_zero, List.set_cons_succ])
  go_cut [19] (fun v19 wc => ∃ (kq : Nat) (x19_3 : Bool), v19 = .bool x19_3 ∧ Aside0 (purlieuref02_Limit.j0 kq x19_3 a0_0 l0_1 t218 t219 = some (r1, r2, r3)) ∧ Aside0 (kq ≤ k) ∧ Aside0 (Kd.R (Kd.int .i64) 3 wc w.heap.size (fun _ => True) (.slice Ao12 t219.length co12) t219) ∧ Aside0 (wc.heap[gb216]? = some (.cells #[.bool a0_0, (.slice A0_1 l0_1.length c0_1)] 26 (0, 0))) ∧ Aside0 (wc.heap[gb217]? = some (.cells #[.bool false, (.slice none 0 0)] 26 (0, 0))) ∧ Aside0 (wc.heap[gb223]? = some (.cells #[.bool t218, (.slice Ao12 t219.length co12)] 26 (0, 0))) ∧ Aside0 (Below w.heap.size w wc))
  case first =>
    have H := HC4.out
    clear HC4
    by_cases c13 : t222 = 0
    · rw [if_pos c13] at H
      have c13b0 : (t222 == 0) = true := beq_iff_eq.mpr c13
      have c13b1 : (t222 != 0) = false := bne_eq_false_iff_eq.mpr c13
      clear c13
      (first | rw [c13b0] | (simp only [i64_w, i32_w]; rw [c13b0]) | skip)
      replace H := Option.bind_eq_some_iff.mp H
      obtain ⟨t224, A140, H⟩ := H
      replace H : (purlieuref02_Limit.j0 k (!t224) a0_0 l0_1 t218 t219) = some (r1, r2, r3) := H
      have A14 := Aside0.mk A140
      clear A140
      have H' := Aside0.mk H
      clear H
      have hnb15 := NB216_217.out
      have hnc15 := NB217_216.out
      have hnb16 := NB216_223.out
      have hnc16 := NB223_216.out
      have hcz17_0 : w8.cell? ⟨gb216, 0, none⟩ = some (.bool a0_0) := (blk_cell BK216.out 0).trans rfl
      have hcz17_1 : w8.cell? ⟨gb216, 1, none⟩ = some (.slice A0_1 l0_1.length c0_1) := (blk_cell BK216.out 1).trans rfl
      have hfz17_0 := blk_frozen BK216.out 0
      have hfz17_1 := blk_frozen BK216.out 1
      go_wp2_with (first | (go_at_call 32; (with_reducible refine (purlieuref02_Can.calls k a0_0 _ _ l0_1 t224 _ ?side1 ?side2 A14.out).mono ?_); (case side1 => exact Kd.C_below HR0_1.out (by repeat (first | (with_reducible first | exact HB.out | apply below_alloc | apply pw_below_drewN | apply below_drew1 | refine below_set ?_ GE216.out | refine below_set ?_ GE217.out | refine below_set ?_ GE223.out) | exact HB.out))); (case side2 => exact HC0_1.out); rintro e w18 ⟨rfl, hb⟩; have n0_ := Aside0.mk (Kd.R_below (by (with_reducible repeat (first | apply Kd.R_alloc | apply Kd.R_drewN | apply Kd.R_drew)); exact (Kd.R_mono (Kd.R_far (p := ⟨gb223, 1, none⟩) (Kd.R_far (p := ⟨gb223, 0, none⟩) (Kd.R_types HO221.out BK223.out (by decide)) (fun _ hk => hk.2) (.bool t218)) (fun _ hk => hk.2) (.slice Ao12 t219.length co12)) (fun _ h_ => h_.1))) hb); have n1_ := Aside0.mk (blk_below (g := gb216) (o := .cells #[.bool a0_0, .slice A0_1 l0_1.length c0_1] 26 (0, 0)) (by (with_reducible repeat (first | refine blk_drewN ?_ _ | refine blk_drew ?_ | refine blk_alloc ?_ _)); refine blk_far ?_ NB216_223.out _; (with_reducible repeat (first | refine blk_drewN ?_ _ | refine blk_drew ?_ | refine blk_alloc ?_ _)); refine blk_far ?_ NB216_223.out _; (with_reducible repeat (first | refine blk_drewN ?_ _ | refine blk_drew ?_ | refine blk_alloc ?_ _)); exact BK216.out) hb); have n2_ := Aside0.mk (blk_below (g := gb217) (o := .cells #[.bool false, .slice none 0 0] 26 (0, 0)) (by (with_reducible repeat (first | refine blk_drewN ?_ _ | refine blk_drew ?_ | refine blk_alloc ?_ _)); refine blk_far ?_ NB217_223.out _; (with_reducible repeat (first | refine blk_drewN ?_ _ | refine blk_drew ?_ | refine blk_alloc ?_ _)); refine blk_far ?_ NB217_223.out _; (with_reducible repeat (first | refine blk_drewN ?_ _ | refine blk_drew ?_ | refine blk_alloc ?_ _)); exact BK217.out) hb); have n3_ := Aside0.mk (blk_below (g := gb223) (o := .cells #[.bool t218, .slice Ao12 t219.length co12] 26 (0, 0)) (by (with_reducible repeat (first | refine blk_drewN ?_ _ | refine blk_drew ?_ | refine blk_alloc ?_ _)); refine blk_put (cs := #[.bool t218, .slice none 0 0]) ?_ 1 _ rfl; (with_reducible repeat (first | refine blk_drewN ?_ _ | refine blk_drew ?_ | refine blk_alloc ?_ _)); refine blk_put (cs := #[.bool false, .slice none 0 0]) ?_ 0 _ rfl; (with_reducible repeat (first | refine blk_drewN ?_ _ | refine blk_drew ?_ | refine blk_alloc ?_ _)); exact BK223.out) hb); have n4_ := Aside0.mk (below_step (by repeat (first | (with_reducible first | exact HB.out | apply below_alloc | apply pw_below_drewN | apply below_drew1 | refine below_set ?_ GE216.out | refine below_set ?_ GE217.out | refine below_set ?_ GE223.out) | exact HB.out)) hb); clear HO221; clear BK216; clear BK217; clear BK223; clear HB; have HO221 := n0_; have BK216 := n1_; have BK217 := n2_; have BK223 := n3_; have HB := n4_; clear n0_ n1_ n2_ n3_ n4_; (try clear hb); (try clear hb2); (try clear hk); (try clear hi)))
      go_meet
      case rel => exact ⟨_, (!t224), (by first | rfl | (simp; done) | (simp [*]; done)), H', ⟨by first | omega | exact Nat.le_refl _⟩, ⟨by (with_reducible repeat (first | apply Kd.R_alloc | apply Kd.R_drewN | apply Kd.R_drew)); exact HO221.out⟩, ⟨by (with_reducible repeat (first | refine blk_drewN ?_ _ | refine blk_drew ?_ | refine blk_alloc ?_ _)); exact BK216.out⟩, ⟨by (with_reducible repeat (first | refine blk_drewN ?_ _ | refine blk_drew ?_ | refine blk_alloc ?_ _)); exact BK217.out⟩, ⟨by (with_reducible repeat (first | refine blk_drewN ?_ _ | refine blk_drew ?_ | refine blk_alloc ?_ _)); exact BK223.out⟩, ⟨by repeat (first | (with_reducible first | exact HB.out | apply below_alloc | apply pw_below_drewN | apply below_drew1 | refine below_set ?_ GE216.out | refine below_set ?_ GE217.out | refine below_set ?_ GE223.out) | exact HB.out)⟩⟩
    · rw [if_neg c13] at H
      have c13b0 : (t222 == 0) = false := beq_eq_false_iff_ne.mpr c13
      have c13b1 : (t222 != 0) = true := bne_iff_ne.mpr c13
      (first | rw [c13b0] | (simp only [i64_w, i32_w]; rw [c13b0]) | skip)
      have H' := Aside0.mk H
      clear H
      go_wp2
      go_meet
      case rel => exact ⟨_, (true), (by first | rfl | (simp; done) | (simp [*]; done)), H', ⟨by first | omega | exact Nat.le_refl _⟩, ⟨by (with_reducible repeat (first | apply Kd.R_alloc | apply Kd.R_drewN | apply Kd.R_drew)); exact Kd.R_mono (Kd.R_far (p := ⟨gb223, 1, none⟩) (Kd.R_far (p := ⟨gb223, 0, none⟩) (Kd.R_types HO221.out BK223.out (by decide)) (fun _ hk => hk.2) (.bool t218)) (fun _ hk => hk.2) (.slice Ao12 t219.length co12)) (fun _ hk => trivial)⟩, ⟨by (with_reducible repeat (first | refine blk_drewN ?_ _ | refine blk_drew ?_ | refine blk_alloc ?_ _)); refine blk_far ?_ NB216_223.out _; (with_reducible repeat (first | refine blk_drewN ?_ _ | refine blk_drew ?_ | refine blk_alloc ?_ _)); refine blk_far ?_ NB216_223.out _; (with_reducible repeat (first | refine blk_drewN ?_ _ | refine blk_drew ?_ | refine blk_alloc ?_ _)); exact BK216.out⟩, ⟨by (with_reducible repeat (first | refine blk_drewN ?_ _ | refine blk_drew ?_ | refine blk_alloc ?_ _)); refine blk_far ?_ NB217_223.out _; (with_reducible repeat (first | refine blk_drewN ?_ _ | refine blk_drew ?_ | refine blk_alloc ?_ _)); refine blk_far ?_ NB217_223.out _; (with_reducible repeat (first | refine blk_drewN ?_ _ | refine blk_drew ?_ | refine blk_alloc ?_ _)); exact BK217.out⟩, ⟨by (with_reducible repeat (first | refine blk_drewN ?_ _ | refine blk_drew ?_ | refine blk_alloc ?_ _)); refine blk_put (cs := #[.bool t218, .slice none 0 0]) ?_ 1 _ rfl; (with_reducible repeat (first | refine blk_drewN ?_ _ | refine blk_drew ?_ | refine blk_alloc ?_ _)); refine blk_put (cs := #[.bool false, .slice none 0 0]) ?_ 0 _ rfl; (with_reducible repeat (first | refine blk_drewN ?_ _ | refine blk_drew ?_ | refine blk_alloc ?_ _)); exact BK223.out⟩, ⟨by repeat (first | (with_reducible first | exact HB.out | apply below_alloc | apply pw_below_drewN | apply below_drew1 | refine below_set ?_ GE216.out | refine below_set ?_ GE217.out | refine below_set ?_ GE223.out) | exact HB.out)⟩⟩
  case rest =>
    clear HC4
    try clear c1
    try clear p2
    try clear c6
    try clear c9
    try clear c10
    try clear c13
    try clear c13b0
    try clear c13b1
    try clear c15
    try clear c16
    try clear hcz11_0
    try clear hcz11_1
    try clear hcz17_0
    try clear hcz17_1
    try clear hfz11_0
    try clear hfz11_1
    try clear hfz17_0
    try clear hfz17_1
    obtain ⟨kq, x19_3, rfl, HA, HJ3, HO_224001, BK216, BK217, BK223, HB⟩ := hcut
    cases kq with
    | zero => exact absurd HA.out (by simp [purlieuref02_Limit.j0])
    | succ kj3 =>
      have H := HA.out
      clear HA
      simp only [purlieuref02_Limit.j0] at H
      by_cases c19 : x19_3 = true
      · subst c19
        have H1 : (some (false, ([] : List Int), 22)) = some (r1, r2, r3) := by rw [if_pos rfl] at H; exact H
        clear H
        have H := H1
        clear H1
        simp only [Option.some.injEq, Prod.mk.injEq] at H
        obtain ⟨rfl, rfl, rfl⟩ := H
        have hnb20 := NB217_216.out
        have hnc20 := NB216_217.out
        have hnb21 := NB217_223.out
        have hnc21 := NB223_217.out
        have hcz22_0 : wc.cell? ⟨gb217, 0, none⟩ = some (.bool false) := (blk_cell BK217.out 0).trans rfl
        have hcz22_1 : wc.cell? ⟨gb217, 1, none⟩ = some (.slice none 0 0) := (blk_cell BK217.out 1).trans rfl
        have hfz22_0 := blk_frozen BK217.out 0
        have hfz22_1 := blk_frozen BK217.out 1
        go_wp2
        refine bodyPost_ret (results_ct rfl _ _ gb217 26 #[.bool false, .slice none 0 0] (0, 0) _ rfl (by (with_reducible repeat (first | refine blk_drewN ?_ _ | refine blk_drew ?_ | refine blk_alloc ?_ _)); refine blk_put (cs := #[.bool false, .slice none 0 0]) ?_ 1 _ rfl; (with_reducible repeat (first | refine blk_drewN ?_ _ | refine blk_drew ?_ | refine blk_alloc ?_ _)); refine blk_put (cs := #[.bool false, .slice none 0 0]) ?_ 0 _ rfl; (with_reducible repeat (first | refine blk_drewN ?_ _ | refine blk_drew ?_ | refine blk_alloc ?_ _)); exact BK217.out) Try.underlying26 rfl (by kernel_rfl)) rfl ?_
        exact ⟨_, by first | rfl | (simp [errW_none, errW_some] <;> rfl) | (simp [*, errW_none, errW_some] <;> rfl), by first | exact Kd.R_nil _ _ _ _ _ | exact Kd.N_nil _ _ _ _ _ | exact Kd.V_nil _ _ _ _ _ | exact Kd.Q_nil _ _ _ _ _ | exact Kd.S_nil _ _ _ _ _, by repeat (first | (with_reducible first | exact HB.out | apply below_alloc | apply pw_below_drewN | apply below_drew1 | refine below_set ?_ GE216.out | refine below_set ?_ GE217.out | refine below_set ?_ GE223.out) | exact HB.out)⟩
      · replace c19 := Bool.eq_false_iff.mpr c19
        subst c19
        have H1 : ((purlieuref02_Subset.f kj3 t218 t219 a0_0 l0_1).bind fun t225 => (if t225 = true then (some (t218, t219, 0)) else (some (false, ([] : List Int), 93)))) = some (r1, r2, r3) := by rw [if_neg (show ¬ (false = true) by decide)] at H; exact H
        clear H
        have H := H1
        clear H1
        replace H := Option.bind_eq_some_iff.mp H
        obtain ⟨t225, A230, H⟩ := H
        replace H : (if t225 = true then (some (t218, t219, 0)) else (some (false, ([] : List Int), 93))) = some (r1, r2, r3) := H
        have A23 := Aside0.mk A230
        clear A230
        by_cases c24 : t225 = true
        · subst c24
          have H1 : (some (t218, t219, 0)) = some (r1, r2, r3) := by rw [if_pos rfl] at H; exact H
          clear H
          have H := H1
          clear H1
          simp only [Option.some.injEq, Prod.mk.injEq] at H
          obtain ⟨rfl, rfl, rfl⟩ := H
          have hnb25 := NB223_216.out
          have hnc25 := NB216_223.out
          have hnb26 := NB223_217.out
          have hnc26 := NB217_223.out
          have hcz27_0 : wc.cell? ⟨gb223, 0, none⟩ = some (.bool t218) := (blk_cell BK223.out 0).trans rfl
          have hcz27_1 : wc.cell? ⟨gb223, 1, none⟩ = some (.slice Ao12 t219.length co12) := (blk_cell BK223.out 1).trans rfl
          have hfz27_0 := blk_frozen BK223.out 0
          have hfz27_1 := blk_frozen BK223.out 1
          have hnb28 := NB216_217.out
          have hnc28 := NB217_216.out
          have hcz29_0 : wc.cell? ⟨gb216, 0, none⟩ = some (.bool a0_0) := (blk_cell BK216.out 0).trans rfl
          have hcz29_1 : wc.cell? ⟨gb216, 1, none⟩ = some (.slice A0_1 l0_1.length c0_1) := (blk_cell BK216.out 1).trans rfl
          have hfz29_0 := blk_frozen BK216.out 0
          have hfz29_1 := blk_frozen BK216.out 1
          go_wp2_with (first | ((with_reducible refine gate_callee (f := 42) rfl ?_); refine goesL_ (some 23) rfl rfl Try.func42 (by kernel_rfl) rfl #[.agg #[.bool t218, .slice Ao12 t219.length co12], .agg #[.bool a0_0, .slice A0_1 l0_1.length c0_1]] rfl (by (try simp only [List.map_toArray, List.map_cons, List.map_nil]); first | done | rfl | (simp only [List.length_drop, List.length_take]; rfl)) ?_; (with_reducible refine (purlieuref02_Subset.calls kj3 t218 _ _ t219 a0_0 _ _ l0_1 true _ ?side1 ?side2 ?side3 ?side4 A23.out).mono ?_); (case side1 => repeat (first | exact (Kd.R_reads' HO_224001.out).2.2 | (with_reducible refine Kd.C_alloc ?_ _) | (with_reducible refine Kd.C_drewN ?_ _) | (with_reducible refine Kd.C_drew ?_))); (case side2 => exact (Kd.R_reads' HO_224001.out).2.1); (case side3 => repeat (first | exact (Kd.C_below HR0_1.out HB.out) | (with_reducible refine Kd.C_alloc ?_ _) | (with_reducible refine Kd.C_drewN ?_ _) | (with_reducible refine Kd.C_drew ?_))); (case side4 => exact HC0_1.out); rintro e w30 ⟨rfl, hb⟩; refine ⟨_, rfl, ?_⟩; have n0_ := Aside0.mk (Kd.R_below (by (with_reducible repeat (first | apply Kd.R_alloc | apply Kd.R_drewN | apply Kd.R_drew)); exact HO_224001.out) hb); have n1_ := Aside0.mk (blk_below (g := gb216) (o := .cells #[.bool a0_0, .slice A0_1 l0_1.length c0_1] 26 (0, 0)) (by (with_reducible repeat (first | refine blk_drewN ?_ _ | refine blk_drew ?_ | refine blk_alloc ?_ _)); exact BK216.out) hb); have n2_ := Aside0.mk (blk_below (g := gb217) (o := .cells #[.bool false, .slice none 0 0] 26 (0, 0)) (by (with_reducible repeat (first | refine blk_drewN ?_ _ | refine blk_drew ?_ | refine blk_alloc ?_ _)); exact BK217.out) hb); have n3_ := Aside0.mk (blk_below (g := gb223) (o := .cells #[.bool t218, .slice Ao12 t219.length co12] 26 (0, 0)) (by (with_reducible repeat (first | refine blk_drewN ?_ _ | refine blk_drew ?_ | refine blk_alloc ?_ _)); exact BK223.out) hb); have n4_ := Aside0.mk (below_step (by repeat (first | (with_reducible first | exact HB.out | apply below_alloc | apply pw_below_drewN | apply below_drew1 | refine below_set ?_ GE216.out | refine below_set ?_ GE217.out | refine below_set ?_ GE223.out) | exact HB.out)) hb); clear HO_224001; clear BK216; clear BK217; clear BK223; clear HB; have HO_224001 := n0_; have BK216 := n1_; have BK217 := n2_; have BK223 := n3_; have HB := n4_; clear n0_ n1_ n2_ n3_ n4_; (try clear hb); (try clear hb2); (try clear hk); (try clear hi); have hcz31_0 : w30.cell? ⟨gb223, 0, none⟩ = some (.bool t218) := (blk_cell BK223.out 0).trans rfl; have hcz31_1 : w30.cell? ⟨gb223, 1, none⟩ = some (.slice Ao12 t219.length co12) := (blk_cell BK223.out 1).trans rfl; have hfz31_0 := blk_frozen BK223.out 0; have hfz31_1 := blk_frozen BK223.out 1; have hcz32_0 : w30.cell? ⟨gb217, 0, none⟩ = some (.bool false) := (blk_cell BK217.out 0).trans rfl; have hcz32_1 : w30.cell? ⟨gb217, 1, none⟩ = some (.slice none 0 0) := (blk_cell BK217.out 1).trans rfl; have hfz32_0 := blk_frozen BK217.out 0; have hfz32_1 := blk_frozen BK217.out 1))
          refine bodyPost_ret (results_ct rfl _ _ gb217 26 #[.bool t218, .slice Ao12 t219.length co12] (0, 0) _ rfl (by (with_reducible repeat (first | refine blk_drewN ?_ _ | refine blk_drew ?_ | refine blk_alloc ?_ _)); refine blk_put (cs := #[.bool t218, .slice none 0 0]) ?_ 1 _ rfl; (with_reducible repeat (first | refine blk_drewN ?_ _ | refine blk_drew ?_ | refine blk_alloc ?_ _)); refine blk_put (cs := #[.bool false, .slice none 0 0]) ?_ 0 _ rfl; (with_reducible repeat (first | refine blk_drewN ?_ _ | refine blk_drew ?_ | refine blk_alloc ?_ _)); exact BK217.out) Try.underlying26 rfl (by kernel_rfl)) rfl ?_
          exact ⟨_, by first | rfl | (simp [errW_none, errW_some] <;> rfl) | (simp [*, errW_none, errW_some] <;> rfl), by (with_reducible repeat (first | apply Kd.R_alloc | apply Kd.R_drewN | apply Kd.R_drew)); exact Kd.R_mono (Kd.R_far (p := ⟨gb217, 1, none⟩) (Kd.R_far (p := ⟨gb217, 0, none⟩) (Kd.R_types HO_224001.out BK217.out (by decide)) (fun _ hk => hk.2) (.bool t218)) (fun _ hk => hk.2) (.slice Ao12 t219.length co12)) (fun _ hk => trivial), by repeat (first | (with_reducible first | exact HB.out | apply below_alloc | apply pw_below_drewN | apply below_drew1 | refine below_set ?_ GE216.out | refine below_set ?_ GE217.out | refine below_set ?_ GE223.out) | exact HB.out)⟩
        · replace c24 := Bool.eq_false_iff.mpr c24
          subst c24
          have H1 : (some (false, ([] : List Int), 93)) = some (r1, r2, r3) := by rw [if_neg (show ¬ (false = true) by decide)] at H; exact H
          clear H
          have H := H1
          clear H1
          simp only [Option.some.injEq, Prod.mk.injEq] at H
          obtain ⟨rfl, rfl, rfl⟩ := H
          have hnb33 := NB223_216.out
          have hnc33 := NB216_223.out
          have hnb34 := NB223_217.out
          have hnc34 := NB217_223.out
          have hcz35_0 : wc.cell? ⟨gb223, 0, none⟩ = some (.bool t218) := (blk_cell BK223.out 0).trans rfl
          have hcz35_1 : wc.cell? ⟨gb223, 1, none⟩ = some (.slice Ao12 t219.length co12) := (blk_cell BK223.out 1).trans rfl
          have hfz35_0 := blk_frozen BK223.out 0
          have hfz35_1 := blk_frozen BK223.out 1
          have hnb36 := NB216_217.out
          have hnc36 := NB217_216.out
          have hcz37_0 : wc.cell? ⟨gb216, 0, none⟩ = some (.bool a0_0) := (blk_cell BK216.out 0).trans rfl
          have hcz37_1 : wc.cell? ⟨gb216, 1, none⟩ = some (.slice A0_1 l0_1.length c0_1) := (blk_cell BK216.out 1).trans rfl
          have hfz37_0 := blk_frozen BK216.out 0
          have hfz37_1 := blk_frozen BK216.out 1
          go_wp2_with (first | ((with_reducible refine gate_callee (f := 42) rfl ?_); refine goesL_ (some 23) rfl rfl Try.func42 (by kernel_rfl) rfl #[.agg #[.bool t218, .slice Ao12 t219.length co12], .agg #[.bool a0_0, .slice A0_1 l0_1.length c0_1]] rfl (by (try simp only [List.map_toArray, List.map_cons, List.map_nil]); first | done | rfl | (simp only [List.length_drop, List.length_take]; rfl)) ?_; (with_reducible refine (purlieuref02_Subset.calls kj3 t218 _ _ t219 a0_0 _ _ l0_1 false _ ?side1 ?side2 ?side3 ?side4 A23.out).mono ?_); (case side1 => repeat (first | exact (Kd.R_reads' HO_224001.out).2.2 | (with_reducible refine Kd.C_alloc ?_ _) | (with_reducible refine Kd.C_drewN ?_ _) | (with_reducible refine Kd.C_drew ?_))); (case side2 => exact (Kd.R_reads' HO_224001.out).2.1); (case side3 => repeat (first | exact (Kd.C_below HR0_1.out HB.out) | (with_reducible refine Kd.C_alloc ?_ _) | (with_reducible refine Kd.C_drewN ?_ _) | (with_reducible refine Kd.C_drew ?_))); (case side4 => exact HC0_1.out); rintro e w38 ⟨rfl, hb⟩; refine ⟨_, rfl, ?_⟩; have n0_ := Aside0.mk (Kd.R_below (by (with_reducible repeat (first | apply Kd.R_alloc | apply Kd.R_drewN | apply Kd.R_drew)); exact HO_224001.out) hb); have n1_ := Aside0.mk (blk_below (g := gb216) (o := .cells #[.bool a0_0, .slice A0_1 l0_1.length c0_1] 26 (0, 0)) (by (with_reducible repeat (first | refine blk_drewN ?_ _ | refine blk_drew ?_ | refine blk_alloc ?_ _)); exact BK216.out) hb); have n2_ := Aside0.mk (blk_below (g := gb217) (o := .cells #[.bool false, .slice none 0 0] 26 (0, 0)) (by (with_reducible repeat (first | refine blk_drewN ?_ _ | refine blk_drew ?_ | refine blk_alloc ?_ _)); exact BK217.out) hb); have n3_ := Aside0.mk (blk_below (g := gb223) (o := .cells #[.bool t218, .slice Ao12 t219.length co12] 26 (0, 0)) (by (with_reducible repeat (first | refine blk_drewN ?_ _ | refine blk_drew ?_ | refine blk_alloc ?_ _)); exact BK223.out) hb); have n4_ := Aside0.mk (below_step (by repeat (first | (with_reducible first | exact HB.out | apply below_alloc | apply pw_below_drewN | apply below_drew1 | refine below_set ?_ GE216.out | refine below_set ?_ GE217.out | refine below_set ?_ GE223.out) | exact HB.out)) hb); clear HO_224001; clear BK216; clear BK217; clear BK223; clear HB; have HO_224001 := n0_; have BK216 := n1_; have BK217 := n2_; have BK223 := n3_; have HB := n4_; clear n0_ n1_ n2_ n3_ n4_; (try clear hb); (try clear hb2); (try clear hk); (try clear hi); have hcz39_0 : w38.cell? ⟨gb217, 0, none⟩ = some (.bool false) := (blk_cell BK217.out 0).trans rfl; have hcz39_1 : w38.cell? ⟨gb217, 1, none⟩ = some (.slice none 0 0) := (blk_cell BK217.out 1).trans rfl; have hfz39_0 := blk_frozen BK217.out 0; have hfz39_1 := blk_frozen BK217.out 1))
          refine bodyPost_ret (results_ct rfl _ _ gb217 26 #[.bool false, .slice none 0 0] (0, 0) _ rfl (by (with_reducible repeat (first | refine blk_drewN ?_ _ | refine blk_drew ?_ | refine blk_alloc ?_ _)); refine blk_put (cs := #[.bool false, .slice none 0 0]) ?_ 1 _ rfl; (with_reducible repeat (first | refine blk_drewN ?_ _ | refine blk_drew ?_ | refine blk_alloc ?_ _)); refine blk_put (cs := #[.bool false, .slice none 0 0]) ?_ 0 _ rfl; (with_reducible repeat (first | refine blk_drewN ?_ _ | refine blk_drew ?_ | refine blk_alloc ?_ _)); exact BK217.out) Try.underlying26 rfl (by kernel_rfl)) rfl ?_
          exact ⟨_, by first | rfl | (simp [errW_none, errW_some] <;> rfl) | (simp [*, errW_none, errW_some] <;> rfl), by first | exact Kd.R_nil _ _ _ _ _ | exact Kd.N_nil _ _ _ _ _ | exact Kd.V_nil _ _ _ _ _ | exact Kd.Q_nil _ _ _ _ _ | exact Kd.S_nil _ _ _ _ _, by repeat (first | (with_reducible first | exact HB.out | apply below_alloc | apply pw_below_drewN | apply below_drew1 | refine below_set ?_ GE216.out | refine below_set ?_ GE217.out | refine below_set ?_ GE223.out) | exact HB.out)⟩
end Go.Proofs.Ytilfalpfanaanaa.PA

namespace Go.Proofs.Ytilfalpfanaanaa.PA
open Go.RowKit Go.Proofs.YtilfalpfanaanaaW.PrintWords Go.Proofs.YtilfalpfanaanaaW.PrintLast Go.Proofs.YtilfalpfanaanaaW.PrintMore Go.Proofs.Ytilfalpfanaanaa.LibRow
theorem rIns_nil (x : Int) : rIns [] x = [x] := by simp [rIns, kOf]
theorem rIns_cons (a : Int) (r : List Int) (x : Int) : rIns (a :: r) x = if a < x then a :: rIns r x else x :: a :: r := by
  unfold rIns kOf
  by_cases h : a < x
  · rw [if_pos h, List.takeWhile_cons, if_pos (by simpa using h)]
    simp
  · rw [if_neg h, List.takeWhile_cons, if_neg (by simpa using h)]
    simp
theorem rIns_mem (x y : Int) : ∀ acc : List Int, y ∈ rIns acc x ↔ y = x ∨ y ∈ acc := by
  intro acc
  induction acc with
  | nil => simp [rIns_nil]
  | cons a r ih =>
    rw [rIns_cons]
    split
    · rw [List.mem_cons, ih, List.mem_cons]
      constructor
      · rintro (h | h | h)
        · exact .inr (.inl h)
        · exact .inl h
        · exact .inr (.inr h)
      · rintro (h | h | h)
        · exact .inr (.inl h)
        · exact .inl h
        · exact .inr (.inr h)
    · simp
theorem rIns_sorted (x : Int) : ∀ acc : List Int, acc.Pairwise (· < ·) → x ∉ acc → (rIns acc x).Pairwise (· < ·) := by
  intro acc
  induction acc with
  | nil => intro _ _; rw [rIns_nil]; simp
  | cons a r ih =>
    intro hs hx
    rw [List.pairwise_cons] at hs
    rw [rIns_cons]
    split
    · rename_i h
      rw [List.pairwise_cons]
      refine ⟨fun y hy => ?_, ih hs.2 (fun h' => hx (List.mem_cons_of_mem _ h'))⟩
      rcases (rIns_mem x y r).1 hy with rfl | h'
      · exact h
      · exact hs.1 y h'
    · rename_i h
      have hax : x < a := by
        have : x ≠ a := fun e => hx (by rw [e]; exact List.mem_cons_self)
        omega
      rw [List.pairwise_cons]
      refine ⟨fun y hy => ?_, List.pairwise_cons.2 hs⟩
      rcases List.mem_cons.1 hy with rfl | h'
      · exact hax
      · have := hs.1 y h'; omega
theorem rise_le : ∀ (m s : List Int), s.Pairwise (· < ·) → m.Pairwise (· < ·) → (∀ z ∈ s, z ∈ m) → s.length ≤ m.length := by
  intro m
  induction m with
  | nil =>
    intro s _ _ h
    cases s with
    | nil => simp
    | cons x s => exact absurd (h x List.mem_cons_self) (by simp)
  | cons y m ih =>
    intro s hs hm h
    cases s with
    | nil => simp
    | cons x s =>
      rw [List.pairwise_cons] at hm
      have hs' := List.pairwise_cons.1 hs
      rcases List.mem_cons.1 (h x List.mem_cons_self) with rfl | hx
      · have := ih s hs'.2 hm.2 (fun z hz => by
          rcases List.mem_cons.1 (h z (List.mem_cons_of_mem _ hz)) with rfl | h'
          · exact absurd (hs'.1 _ hz) (by omega)
          · exact h')
        simp only [List.length_cons]
        omega
      · have := ih (x :: s) hs hm.2 (fun z hz => by
          rcases List.mem_cons.1 (h z hz) with rfl | h'
          · have h1 := hm.1 x hx
            rcases List.mem_cons.1 hz with rfl | hz
            · omega
            · have := hs'.1 _ hz; omega
          · exact h')
        simp only [List.length_cons] at this ⊢
        omega
theorem rise_eq : ∀ (m s : List Int), s.Pairwise (· < ·) → m.Pairwise (· < ·) → (∀ z, z ∈ s ↔ z ∈ m) → s = m := by
  intro m
  induction m with
  | nil =>
    intro s _ _ h
    cases s with
    | nil => rfl
    | cons x s => exact absurd ((h x).1 List.mem_cons_self) (by simp)
  | cons y m ih =>
    intro s hs hm h
    cases s with
    | nil => exact absurd ((h y).2 List.mem_cons_self) (by simp)
    | cons x s =>
      have hs' := List.pairwise_cons.1 hs
      have hm' := List.pairwise_cons.1 hm
      have e : x = y := by
        rcases List.mem_cons.1 ((h x).1 List.mem_cons_self) with e | hx
        · exact e
        · rcases List.mem_cons.1 ((h y).2 List.mem_cons_self) with e | hy
          · exact e.symm
          · have := hm'.1 x hx; have := hs'.1 y hy; omega
      subst e
      congr 1
      refine ih s hs'.2 hm'.2 fun z => ⟨fun hz => ?_, fun hz => ?_⟩
      · rcases List.mem_cons.1 ((h z).1 (List.mem_cons_of_mem _ hz)) with rfl | h'
        · exact absurd (hs'.1 _ hz) (by omega)
        · exact h'
      · rcases List.mem_cons.1 ((h z).2 (List.mem_cons_of_mem _ hz)) with rfl | h'
        · exact absurd (hm'.1 _ hz) (by omega)
        · exact h'
theorem rmake_some : ∀ (l acc r : List Int), acc.Pairwise (· < ·) → (∀ x ∈ acc, 0 ≤ x) → acc.length ≤ 32 → rmake acc l = some r →
    r.Pairwise (· < ·) ∧ (∀ y, y ∈ r ↔ y ∈ acc ∨ y ∈ l) ∧ (∀ x ∈ r, 0 ≤ x) ∧ r.length ≤ 32 := by
  intro l
  induction l with
  | nil =>
    intro acc r h1 h2 h3 h
    rw [rmake] at h
    obtain rfl := Option.some.inj h
    exact ⟨h1, fun y => by simp, h2, h3⟩
  | cons x l ih =>
    intro acc r h1 h2 h3 h
    rw [rmake] at h
    split at h
    · cases h
    · rename_i hx
      split at h
      · rename_i hc
        have hm := List.contains_iff_mem.1 hc
        obtain ⟨k1, k2, k3⟩ := ih acc r h1 h2 h3 h
        refine ⟨k1, fun y => ?_, k3⟩
        rw [k2, List.mem_cons]
        constructor
        · rintro (h | h)
          · exact .inl h
          · exact .inr (.inr h)
        · rintro (h | rfl | h)
          · exact .inl h
          · exact .inl hm
          · exact .inr h
      · rename_i hc
        have hm : x ∉ acc := fun h' => hc (List.contains_iff_mem.2 h')
        split at h
        · cases h
        · rename_i hl
          obtain ⟨k1, k2, k3⟩ := ih (rIns acc x) r (rIns_sorted x acc h1 hm) (fun y hy => by
            rcases (rIns_mem x y acc).1 hy with rfl | h'
            · omega
            · exact h2 y h') (by omega) h
          refine ⟨k1, fun y => ?_, k3⟩
          rw [k2, rIns_mem, List.mem_cons]
          constructor
          · rintro ((h | h) | h)
            · exact .inr (.inl h)
            · exact .inl h
            · exact .inr (.inr h)
          · rintro (h | h | h)
            · exact .inl (.inr h)
            · exact .inl (.inl h)
            · exact .inr h
theorem rmake_none : ∀ (l acc : List Int), acc.Pairwise (· < ·) → rmake acc l = none →
    (∃ x ∈ l, x < 0) ∨ ∃ s : List Int, s.Pairwise (· < ·) ∧ 32 < s.length ∧ ∀ y ∈ s, y ∈ acc ∨ y ∈ l := by
  intro l
  induction l with
  | nil => intro acc _ h; rw [rmake] at h; cases h
  | cons x l ih =>
    intro acc h1 h
    rw [rmake] at h
    split at h
    · rename_i hx
      exact .inl ⟨x, List.mem_cons_self, hx⟩
    · split at h
      · rcases ih acc h1 h with ⟨y, hy, h0⟩ | ⟨s, k1, k2, k3⟩
        · exact .inl ⟨y, List.mem_cons_of_mem _ hy, h0⟩
        · exact .inr ⟨s, k1, k2, fun y hy => (k3 y hy).imp id (List.mem_cons_of_mem _)⟩
      · rename_i hc
        have hm : x ∉ acc := fun h' => hc (List.contains_iff_mem.2 h')
        split at h
        · rename_i hl
          refine .inr ⟨rIns acc x, rIns_sorted x acc h1 hm, hl, fun y hy => ?_⟩
          rcases (rIns_mem x y acc).1 hy with rfl | h'
          · exact .inr List.mem_cons_self
          · exact .inl h'
        · rcases ih (rIns acc x) (rIns_sorted x acc h1 hm) h with ⟨y, hy, h0⟩ | ⟨s, k1, k2, k3⟩
          · exact .inl ⟨y, List.mem_cons_of_mem _ hy, h0⟩
          · refine .inr ⟨s, k1, k2, fun y hy => ?_⟩
            rcases k3 y hy with h' | h'
            · rcases (rIns_mem x y acc).1 h' with rfl | h''
              · exact .inr List.mem_cons_self
              · exact .inl h''
            · exact .inr (List.mem_cons_of_mem _ h')
theorem bang (l : List Int) (j : Nat) (h : j < l.length) : l.toArray[j]! = l[j] := by
  rw [getElem!_pos l.toArray j (by simpa using h)]; simp
theorem compact_upto (l : List Int) (hs : l.Pairwise (· ≤ ·)) : ∀ m, m ≤ l.length →
    (Lib.compactUpTo l.toArray m).Pairwise (· < ·) ∧ ∀ y, y ∈ Lib.compactUpTo l.toArray m ↔ y ∈ l.take m := by
  intro m
  induction m with
  | zero => intro _; simp [Lib.compactUpTo]
  | succ m ih =>
    intro hm
    obtain ⟨h1, h2⟩ := ih (by omega)
    have hle : ∀ i j (hi : i < l.length) (hj : j < l.length), i < j → l[i] ≤ l[j] := fun i j hi hj hij => List.pairwise_iff_getElem.1 hs i j hi hj hij
    rw [Lib.compactUpTo_succ, bang l m (by omega), List.take_succ_eq_append_getElem (by omega)]
    by_cases hk : Lib.keeps l.toArray m = true
    · rw [if_pos hk]
      refine ⟨List.pairwise_append.2 ⟨h1, by simp, fun y hy z hz => ?_⟩, fun y => by simp only [List.mem_append, h2]⟩
      rw [List.mem_singleton] at hz
      subst hz
      rw [h2] at hy
      obtain ⟨i, hi, rfl⟩ := List.getElem_of_mem hy
      rw [List.length_take] at hi
      rw [List.getElem_take]
      have hd : l[m] ≠ l[m - 1] := by
        unfold Lib.keeps at hk
        rw [decide_eq_true_iff] at hk
        rcases hk with hk | hk
        · omega
        · rwa [bang l m (by omega), bang l (m - 1) (by omega)] at hk
      have h3 : l[m - 1] ≤ l[m] := hle (m - 1) m (by omega) (by omega) (by omega)
      rcases Nat.eq_or_lt_of_le (show i ≤ m - 1 by omega) with h4 | h4
      · subst h4; omega
      · have := hle i (m - 1) (by omega) (by omega) h4
        omega
    · rw [if_neg hk, List.append_nil]
      refine ⟨h1, fun y => ?_⟩
      rw [h2, List.mem_append, List.mem_singleton]
      constructor
      · exact .inl
      · rintro (h | rfl)
        · exact h
        · unfold Lib.keeps at hk
          rw [decide_eq_true_iff] at hk
          have hm0 : m ≠ 0 := fun h => hk (.inl h)
          have he : l[m] = l[m - 1] := by
            by_cases h : l[m] = l[m - 1]
            · exact h
            · exact absurd (.inr (by rwa [bang l m (by omega), bang l (m - 1) (by omega)])) hk
          rw [he]
          exact List.mem_iff_getElem.2 ⟨m - 1, by rw [List.length_take]; omega, by rw [List.getElem_take]⟩
theorem made_sorted (l : List Int) : (madeL l).Pairwise (· < ·) ∧ ∀ y, y ∈ madeL l ↔ y ∈ l := by
  have hs : (sorted l).Pairwise (· ≤ ·) := by
    have := List.pairwise_mergeSort (le := fun x y : Int => decide (x ≤ y)) (fun a b c h1 h2 => by simp at *; omega) (fun a b => by simp; omega) l
    unfold sorted
    exact this.imp (by simp)
  obtain ⟨h1, h2⟩ := compact_upto (sorted l) hs (sorted l).length (Nat.le_refl _)
  refine ⟨h1, fun y => ?_⟩
  unfold madeL Lib.compact
  rw [h2, List.take_length]
  exact List.mem_mergeSort
theorem rmake_made (l : List Int) : rmake [] l = if canL (madeL l) = true then some (madeL l) else none := by
  obtain ⟨h1, h2⟩ := made_sorted l
  cases h : rmake [] l with
  | some r =>
    obtain ⟨k1, k2, k3, k4⟩ := rmake_some l [] r (by simp) (by simp) (by simp) h
    have e : r = madeL l := rise_eq _ _ k1 h1 fun z => by rw [k2, h2]; simp
    subst e
    rw [if_pos ((canL_iff' _).2 ⟨h1, k3, k4⟩)]
  | none =>
    rw [if_neg]
    intro hc
    obtain ⟨-, c2, c3⟩ := (canL_iff' _).1 hc
    rcases rmake_none l [] (by simp) h with ⟨x, hx, h0⟩ | ⟨s, k1, k2, k3⟩
    · have := c2 x ((h2 x).2 hx); omega
    · have := rise_le (madeL l) s k1 h1 (fun z hz => (h2 z).2 (by simpa using k3 z hz))
      omega
def mkR (l : List Int) : Bool × List Int × Int := if canL (madeL l) = true then (false, madeL l, 0) else (false, [], 22)
theorem wmade_eq (l : List Int) (h : l.length ≤ 200) : white_made.f l = some (mkR l) := by
  unfold white_made.f mkR
  rw [if_pos (by omega)]
  split <;> rfl
theorem rmake_f (l : List Int) (h : l.length ≤ 200) : purlieuref02_Make.f l = some (mkR l) := by
  unfold purlieuref02_Make.f mkR
  rw [if_pos (by omega), rmake_made]
  split
  · rename_i hh; split at hh
    · rename_i hc; obtain rfl := Option.some.inj hh; rw [if_pos hc]
    · cases hh
  · rename_i hh; split at hh
    · cases hh
    · rename_i hc; rw [if_neg hc]
theorem mk_can (l : List Int) : canB (mkR l).1 (mkR l).2.1 = true := by
  unfold mkR
  by_cases h : canL (madeL l) = true
  · rw [if_pos h]; simpa [canB] using h
  · rw [if_neg h]; decide
theorem mk_len (l : List Int) (h : l.length ≤ 200) : (mkR l).2.1.length ≤ 200 := by
  have := mk_can l
  unfold canB at this
  split at this
  · simp only [beq_iff_eq] at this; omega
  · have := ((canL_iff' _).1 this).2.2; omega
theorem rsub_l0 (a b : Bool) (l m : List Int) (hl : l.length ≤ 140737488355328) (hm : m.length ≤ 140737488355328) : ∀ (d k i : Nat), i + d = l.length → d + m.length + 1 < k →
    purlieuref02_Subset.l0 k ((i : Nat) : Int) a l b m = some ((l.drop i).all fun c => hasB b m c) := by
  intro d
  induction d with
  | zero =>
    intro k i hi hk
    obtain ⟨k, rfl⟩ : ∃ j, k = j + 1 := ⟨k - 1, by omega⟩
    simp only [purlieuref02_Subset.l0]
    rw [if_neg (by omega), List.drop_of_length_le (by omega)]
    rfl
  | succ d ih =>
    intro k i hi hk
    obtain ⟨k, rfl⟩ : ∃ j, k = j + 1 := ⟨k - 1, by omega⟩
    have h : i < l.length := by omega
    have step := ih k (i + 1) (by omega) (by omega)
    simp only [purlieuref02_Subset.l0]
    rw [if_pos (by omega), if_pos (by omega), rhas_eq b m _ hm k (by omega), rd_nat, gd h, List.drop_eq_getElem_cons h, wrap_step (by omega), step]
    simp only [Option.bind_some, List.all_cons]
    by_cases hh : hasB b m l[i] = true
    · rw [if_pos hh, hh, Bool.true_and]
    · rw [if_neg hh, Bool.eq_false_iff.2 hh, Bool.false_and]
theorem canB_true {l : List Int} (h : canB true l = true) : l = [] := by
  unfold canB at h
  simpa using h
theorem canB_nonneg {a : Bool} {l : List Int} (h : canB a l = true) : ∀ c ∈ l, 0 ≤ c := by
  cases a with
  | true => rw [canB_true h]; intro c hc; cases hc
  | false => exact ((canL_iff' l).1 (by simpa [canB] using h)).2.1
theorem rsub_eq (a b : Bool) (l m : List Int) (hl : l.length ≤ 140737488355328) (hm : m.length ≤ 140737488355328) (k : Nat) (hk : l.length + m.length + 5 < k) : purlieuref02_Subset.f k a l b m = some (subB a l b m) := by
  obtain ⟨k, rfl⟩ : ∃ j, k = j + 1 := ⟨k - 1, by omega⟩
  have h0 := rsub_l0 a b l m hl hm l.length k 0 (by omega) (by omega)
  rw [show ((0 : Nat) : Int) = 0 from rfl, List.drop_zero] at h0
  unfold purlieuref02_Subset.f subB
  rw [rcan_eq a l hl _ (by omega), rcan_eq b m hm _ (by omega)]
  simp only [Option.bind_some, purlieuref02_Subset.j0, h0]
  by_cases ha : canB a l = true
  · by_cases hb : canB b m = true
    · rw [ha, hb]
      cases a with
      | true =>
        rw [canB_true ha]
        cases b <;> simp
      | false =>
        cases b with
        | false => simp
        | true =>
          simp only [if_true, Bool.false_eq_true, if_false, Bool.true_and, Bool.false_or]
          congr 1
          rw [List.all_eq_true]
          intro c hc
          unfold hasB
          rw [decide_eq_true (canB_nonneg ha c hc), hb]
          simp
    · rw [ha, Bool.eq_false_iff.2 hb]; simp
  · rw [Bool.eq_false_iff.2 ha]; simp
def limR (a : Bool) (m l : List Int) : Bool × List Int × Int :=
  if canL (madeL l) = true then (if canB a m = true then (if subB false (madeL l) a m = true then (false, madeL l, 0) else (false, [], 93)) else (false, [], 22)) else (false, [], 22)
theorem wlim_eq (a : Bool) (m l : List Int) (hm : m.length ≤ 200) (hl : l.length ≤ 200) : white_Limit.f 600 a m l = some (limR a m l) := by
  have hk := mk_len l hl
  unfold white_Limit.f limR
  rw [wmade_eq l hl, can_all a m (by omega) 600 (by omega)]
  unfold mkR at hk ⊢
  by_cases hc : canL (madeL l) = true
  · rw [if_pos hc] at hk ⊢
    simp only [Option.bind_some]
    rw [if_pos trivial, if_pos hc]
    by_cases ha : canB a m = true
    · rw [if_pos ha, if_pos ha]
      unfold white_subset.f
      rw [if_pos ⟨by simp only at hk; omega, by omega⟩]
      simp only [Option.bind_some]
      split <;> rfl
    · rw [if_neg ha, if_neg ha]
  · rw [if_neg hc, if_neg hc]
    simp
theorem rlim_eq (a : Bool) (m l : List Int) (hm : m.length ≤ 200) (hl : l.length ≤ 200) : purlieuref02_Limit.f 600 a m l = some (limR a m l) := by
  have hk := mk_len l hl
  unfold purlieuref02_Limit.f limR
  rw [rmake_f l hl, rcan_eq a m (by omega) 600 (by omega)]
  unfold mkR at hk ⊢
  by_cases hc : canL (madeL l) = true
  · rw [if_pos hc] at hk ⊢
    simp only [Option.bind_some, purlieuref02_Limit.j0]
    rw [if_pos trivial, if_pos hc]
    by_cases ha : canB a m = true
    · rw [if_pos ha, ha, if_neg (by decide), rsub_eq false a _ _ (by simp only at hk; omega) (by omega) 599 (by simp only at hk; omega)]
      simp only [Option.bind_some]
      split <;> rfl
    · rw [if_neg ha, Bool.eq_false_iff.2 ha, if_pos (by decide)]
  · rw [if_neg hc, if_neg hc]
    simp [purlieuref02_Limit.j0]
theorem lim_len (a : Bool) (m l : List Int) (hl : l.length ≤ 200) : (limR a m l).2.1.length ≤ 200 := by
  have hk := mk_len l hl
  unfold mkR at hk
  unfold limR
  by_cases hc : canL (madeL l) = true
  · rw [if_pos hc] at hk ⊢
    split
    · split
      · exact hk
      · simp
    · simp
  · rw [if_neg hc]; simp
end Go.Proofs.Ytilfalpfanaanaa.PA

namespace Go.Proofs.Ytilfalpfanaanaa.BitsLaw32
open Go.Proofs.YtilfalpfanaanaaW.PrintWords Go.Proofs.YtilfalpfanaanaaW.PrintMore Go.RowKit
def bv (a : Int) : BitVec 32 := BitVec.ofInt 32 a
def bt32 (a : Int) (i : Nat) : Bool := (bv a).getLsbD i
theorem bv_toNat (a : Int) : (bv a).toNat = (a % 4294967296).toNat := by
  unfold bv
  rw [BitVec.toNat_ofInt]
  rfl
theorem parity (a : Int) (i : Nat) (hi : i < 32) : (a % 4294967296) / (2 : Int) ^ i % 2 = a / (2 : Int) ^ i % 2 := by
  have hM : (4294967296 : Int) = (2 : Int) ^ i * (2 * (2 : Int) ^ (31 - i)) :=
    (show ∀ i : Fin 32, (4294967296 : Int) = (2 : Int) ^ i.val * (2 * (2 : Int) ^ (31 - i.val)) by decide +kernel) ⟨i, hi⟩
  have hp : (2 : Int) ^ i ≠ 0 := Int.pow_ne_zero (by decide)
  have h1 : a % 4294967296 = a + (2 : Int) ^ i * (2 * (-((2 : Int) ^ (31 - i) * (a / 4294967296)))) := by
    have h2 := Int.emod_add_mul_ediv a 4294967296
    have h3 : (4294967296 : Int) * (a / 4294967296) = (2 : Int) ^ i * (2 * ((2 : Int) ^ (31 - i) * (a / 4294967296))) := by
      calc (4294967296 : Int) * (a / 4294967296) = ((2 : Int) ^ i * (2 * (2 : Int) ^ (31 - i))) * (a / 4294967296) := by rw [← hM]
        _ = _ := by rw [Int.mul_assoc, Int.mul_assoc]
    rw [Int.mul_neg, Int.mul_neg, ← h3]
    omega
  rw [h1, Int.add_mul_ediv_left _ _ hp]
  omega
theorem bt32_eq (a : Int) (i : Nat) (hi : i < 32) : bt32 a i = decide (a / (2 : Int) ^ i % 2 = 1) := by
  unfold bt32
  rw [BitVec.getLsbD, bv_toNat, Nat.testBit_eq_decide_div_mod_eq, ← parity a i hi]
  have h0 : 0 ≤ a % 4294967296 := Int.emod_nonneg _ (by decide)
  obtain ⟨m, hm⟩ := Int.eq_ofNat_of_zero_le h0
  rw [hm]
  rw [show ((2 : Int) ^ i) = ((2 ^ i : Nat) : Int) by simp]
  simp only [Int.toNat_natCast]
  rw [decide_eq_decide]
  constructor
  · intro h
    have h2 : ((m / 2 ^ i % 2 : Nat) : Int) = 1 := by rw [h]; rfl
    simpa using h2
  · intro h
    have h2 : ((m / 2 ^ i % 2 : Nat) : Int) = 1 := by simpa using h
    omega
theorem wrap_zero (m : Nat) (_hm : m < 4294967296) : IntKind.u32.wrap (m : Int) = 0 ↔ m = 0 := by
  rw [IntKind.wrap_u32]
  omega
theorem wrap_bv (m : Nat) (_hm : m < 4294967296) : bv (IntKind.u32.wrap (m : Int)) = BitVec.ofNat 32 m := by
  apply BitVec.eq_of_toNat_eq
  rw [bv_toNat, BitVec.toNat_ofNat, IntKind.wrap_u32]
  omega
def opOf (op : BinOp) (x y : BitVec 32) : BitVec 32 := match op with | .and => x &&& y | .or => x ||| y | .xor => x ^^^ y | _ => x &&& ~~~y
theorem bits_eq (op : BinOp) (a b : Int) : bits op .u32 a b = IntKind.u32.wrap ((opOf op (bv a) (bv b)).toNat : Int) := by
  unfold bits opOf bv
  cases op <;> rfl
theorem bits_bv (op : BinOp) (a b : Int) : bv (bits op .u32 a b) = opOf op (bv a) (bv b) := by
  rw [bits_eq, wrap_bv _ (opOf op (bv a) (bv b)).isLt, BitVec.ofNat_toNat, BitVec.setWidth_eq]
theorem bits_zero (op : BinOp) (a b : Int) : bits op .u32 a b = 0 ↔ opOf op (bv a) (bv b) = 0 := by
  rw [bits_eq, wrap_zero _ (opOf op (bv a) (bv b)).isLt]
  constructor
  · intro h; apply BitVec.eq_of_toNat_eq; rw [h]; rfl
  · intro h; rw [h]; rfl
theorem bv_zero_iff (x : BitVec 32) : x = 0 ↔ ∀ i, i < 32 → x.getLsbD i = false := by
  constructor
  · rintro rfl i _; simp
  · intro h; apply BitVec.eq_of_getLsbD_eq; intro i hi; rw [h i hi]; simp
theorem andNot_zero (a b : Int) : bits .andNot .u32 a b = 0 ↔ ∀ i, i < 32 → bt32 a i = true → bt32 b i = true := by
  rw [bits_zero, bv_zero_iff]
  constructor
  · intro h i hi ha
    have := h i hi
    simp only [opOf, BitVec.getLsbD_and, BitVec.getLsbD_not, hi, decide_true, Bool.true_and] at this
    unfold bt32 at ha ⊢
    rw [ha] at this
    simpa using this
  · intro h i hi
    have := h i hi
    simp only [opOf, BitVec.getLsbD_and, BitVec.getLsbD_not, hi, decide_true, Bool.true_and]
    unfold bt32 at this
    cases hc : (bv a).getLsbD i with
    | false => rfl
    | true => rw [this hc]; rfl
theorem and_zero (a b : Int) : bits .and .u32 a b = 0 ↔ ∀ i, i < 32 → bt32 a i = true → bt32 b i = false := by
  rw [bits_zero, bv_zero_iff]
  constructor
  · intro h i hi ha
    have := h i hi
    simp only [opOf, BitVec.getLsbD_and] at this
    unfold bt32 at ha ⊢
    rw [ha] at this
    simpa using this
  · intro h i hi
    have := h i hi
    simp only [opOf, BitVec.getLsbD_and]
    unfold bt32 at this
    cases hc : (bv a).getLsbD i with
    | false => rfl
    | true => rw [this hc]; rfl
theorem has_eq (a : Int) (h0 : 0 ≤ a) (i : Nat) (hi : i < 32) : PA.purlieuref01_Has.f a ((i : Nat) : Int) = some (bt32 a i) := by
  have h : IntKind.u64.wrap ((i : Nat) : Int) = (i : Int) := by simp [IntKind.wrap, IntKind.bits, IntKind.signed]; omega
  unfold PA.purlieuref01_Has.f
  rw [h, if_pos (by omega), bt32_eq a i hi]
  have hs : shr .u32 a (i : Int) = a / (2 : Int) ^ i := by
    unfold shr
    rw [Int.toNat_natCast, Nat.min_eq_left (by simp [IntKind.bits]; omega)]
  rw [hs, Int.tmod_eq_emod_of_nonneg (Int.ediv_nonneg h0 (by have : (0 : Int) < 2 ^ i := Int.pow_pos (by decide); omega))]
  congr 1
def subFrom (a b : Int) : Nat → Nat → Bool
  | 0, _ => true
  | d + 1, i => (!bt32 a i || bt32 b i) && subFrom a b d (i + 1)
theorem subFrom_iff (a b : Int) : ∀ d i, subFrom a b d i = true ↔ ∀ j, i ≤ j → j < i + d → bt32 a j = true → bt32 b j = true
  | 0, i => ⟨fun _ j h1 h2 => by omega, fun _ => rfl⟩
  | d + 1, i => by
    unfold subFrom
    rw [Bool.and_eq_true, subFrom_iff a b d (i + 1)]
    constructor
    · rintro ⟨h1, h2⟩ j h3 h4 h5
      rcases Nat.eq_or_lt_of_le h3 with rfl | h6
      · simpa [h5] using h1
      · exact h2 j h6 (by omega) h5
    · intro h
      refine ⟨?_, fun j h1 h2 => h j (by omega) (by omega)⟩
      have := h i (Nat.le_refl _) (by omega)
      cases h1 : bt32 a i <;> simp [h1] at this ⊢
      exact this
theorem sub_l0 (a b : Int) (ha : 0 ≤ a) (hb : 0 ≤ b) : ∀ (d k i : Nat), i + d = 32 → d < k → PA.purlieuref01_Subset.l0 k a b ((i : Nat) : Int) = some (subFrom a b d i) := by
  intro d
  induction d with
  | zero =>
    intro k i hi hk
    obtain ⟨k, rfl⟩ : ∃ m, k = m + 1 := ⟨k - 1, by omega⟩
    simp only [PA.purlieuref01_Subset.l0]
    rw [if_neg (by omega)]; rfl
  | succ d ih =>
    intro k i hi hk
    obtain ⟨k, rfl⟩ : ∃ m, k = m + 1 := ⟨k - 1, by omega⟩
    have step := ih k (i + 1) (by omega) (by omega)
    have hw : wrap64 ((i : Int) + 1) = ((i + 1 : Nat) : Int) := by unfold wrap64; omega
    simp only [PA.purlieuref01_Subset.l0]
    rw [if_pos (by omega), has_eq a ha i (by omega), has_eq b hb i (by omega), hw, step]
    simp only [Option.bind_some, subFrom]
    cases h1 : bt32 a i <;> cases h2 : bt32 b i <;> simp
theorem subset_eq (a b : Int) (ha : 0 ≤ a) (hb : 0 ≤ b) (k : Nat) (hk : 32 < k) : PA.purlieuref01_Subset.f k a b = some (Go.bits .andNot .u32 a b == 0) := by
  unfold PA.purlieuref01_Subset.f
  have := sub_l0 a b ha hb 32 k 0 (by omega) (by omega)
  rw [show ((0 : Nat) : Int) = 0 from rfl] at this
  rw [this]
  congr 1
  rw [Bool.eq_iff_iff, subFrom_iff, beq_iff_eq, andNot_zero]
  exact ⟨fun h i hi => h i (Nat.zero_le _) (by omega), fun h i _ hi => h i (by omega)⟩
end Go.Proofs.Ytilfalpfanaanaa.BitsLaw32

namespace Go.Proofs.Ytilfalpfanaanaa.PA
open Go.RowKit Go.Proofs.YtilfalpfanaanaaW.PrintWords Go.Proofs.YtilfalpfanaanaaW.PrintLast Go.Proofs.YtilfalpfanaanaaW.PrintMore
attribute [local go_sem] max2_int min2_int max_two min_two max_three min_three max_four min_four   -- for this text's walks alone
end Go.Proofs.Ytilfalpfanaanaa.PA

namespace Go.Proofs.Ytilfalpfanaanaa.PA
open Go.RowKit Go.Proofs.YtilfalpfanaanaaW.PrintWords Go.Proofs.YtilfalpfanaanaaW.PrintLast Go.Proofs.YtilfalpfanaanaaW.PrintMore Go.Proofs.Ytilfalpfanaanaa.Sx
theorem tab_base {w : World} {b g p : Nat} {qs : List (Option Nat)} {ss : List (Option Slot)} (h : TabAt w b (fun _ => True) g p qs ss) : TabAt w b (fun k => b ≤ k) g p qs ss :=
  { h with
    low := ⟨h.low.1, h.low.2.1, h.low.1, h.low.2.1⟩
    som := fun i q hq => by
      obtain ⟨h1, _, s, h3, A, c, h5, h6⟩ := h.som i q hq
      exact ⟨h1, h1, s, h3, A, c, h5, Kd.R_mono (Kd.R_bound h6) (fun k hk => hk.2.1)⟩ }
def an (a b : Int) : Prop := Go.bits .andNot .i64 a b = 0
theorem an_iff (a b : Int) : an a b ↔ ∀ i, i < 64 → BitsLaw.bt64 a i = true → BitsLaw.bt64 b i = true := BitsLaw.andNot_zero a b
theorem an_refl (a : Int) : an a a := (an_iff a a).2 fun _ _ h => h
theorem an_or {a b c : Int} (h1 : an a c) (h2 : an b c) : an (Go.bits .or .i64 a b) c := (an_iff _ _).2 fun i hi h => by
  rw [BitsLaw.or_bit, Bool.or_eq_true] at h
  exact h.elim ((an_iff _ _).1 h1 i hi) ((an_iff _ _).1 h2 i hi)
theorem mask_iff (o m : Int) : (maskV o m).2 = 0 ↔ an (Go.bits .or .i64 o m) 120 ∧ an m o := by
  have h := mask_eq o m
  unfold white_Mask.f at h
  unfold an
  split at h
  · rename_i h1
    split at h
    · rename_i h2
      rw [← Option.some.inj h]; exact ⟨fun _ => ⟨h1, h2⟩, fun _ => rfl⟩
    · rename_i h2
      rw [← Option.some.inj h]; exact ⟨fun e => absurd e (by decide), fun e => absurd e.2 h2⟩
  · rename_i h1
    rw [← Option.some.inj h]; exact ⟨fun e => absurd e (by decide), fun e => absurd e.1 h1⟩
theorem mask_val (o m : Int) (h : (maskV o m).2 = 0) : maskV o m = (m, 0) := by
  unfold maskV at h ⊢
  split at h
  · cases h
  · rename_i h1
    split at h
    · cases h
    · rename_i h2; rw [if_neg h1, if_neg h2]
def an32 (a b : Int) : Prop := Go.bits .andNot .u32 a b = 0
theorem an32_zero (a : Int) : an32 0 a := (BitsLaw32.andNot_zero 0 a).2 fun i hi h => by
  rw [BitsLaw32.bt32_eq 0 i hi] at h
  simp at h
theorem subset_zero (a : Int) : rights_Subset.f 0 a = some true := by
  unfold rights_Subset.f
  rw [show Go.bits .andNot .u32 0 a = 0 from an32_zero a]; rfl
def canS (s : Slot) : Bool := decide (0 < s.f0) && canB s.f2.f0 s.f2.f1 && decide (Go.bits .andNot .i64 s.f3 120 = 0)
theorem rcanS (s : Slot) (hl : s.f2.f1.length ≤ 50) : purlieuref13_Can.f 200 s.f0 s.f1 s.f2.f0 s.f2.f1 s.f3 = some (canS s) := by
  unfold purlieuref13_Can.f canS
  rw [rmask_eq 120 s.f3 200 (by omega), rcan_eq _ _ (by omega) 200 (by omega)]
  simp only [Option.bind_some]
  have hm : (maskV 120 s.f3).2 = 0 ↔ Go.bits .andNot .i64 s.f3 120 = 0 := by
    rw [mask_iff]
    exact ⟨fun h => h.2, fun h => ⟨an_or (an_refl 120) h, h⟩⟩
  by_cases h0 : s.f0 > 0
  · rw [if_pos h0, decide_eq_true (show 0 < s.f0 from h0)]
    cases hc : canB s.f2.f0 s.f2.f1
    · simp
    · simp only [if_true, Bool.true_and]
      congr 1
      rw [Bool.eq_iff_iff, beq_iff_eq, decide_eq_true_iff]
      exact hm
  · rw [if_neg h0, decide_eq_false (show ¬ 0 < s.f0 from h0)]; rfl
theorem wcanS (s : Slot) (hl : s.f2.f1.length ≤ 50) : slots_can.f 200 s.f0 s.f1 s.f2.f0 s.f2.f1 s.f3 = some (canS s) := by
  unfold slots_can.f canS white_Can.f
  rw [can_all _ _ (by omega) 200 (by omega)]
  simp only [Option.bind_some]
  by_cases h0 : s.f0 > 0
  · rw [if_pos h0, decide_eq_true (show 0 < s.f0 from h0)]
    cases hc : canB s.f2.f0 s.f2.f1
    · simp
    · simp only [if_true, Bool.true_and]
      congr 1
  · rw [if_neg h0, decide_eq_false (show ¬ 0 < s.f0 from h0)]; rfl
theorem canS_parts {s : Slot} (h : canS s = true) : 0 < s.f0 ∧ canB s.f2.f0 s.f2.f1 = true ∧ an s.f3 120 := by
  unfold canS at h
  simp only [Bool.and_eq_true, decide_eq_true_iff] at h
  exact ⟨h.1.1, h.1.2, h.2⟩
end Go.Proofs.Ytilfalpfanaanaa.PA

namespace Go.Proofs.Ytilfalpfanaanaa.PA
open Go.RowKit Go.Proofs.YtilfalpfanaanaaW.PrintWords Go.Proofs.YtilfalpfanaanaaW.PrintLast Go.Proofs.YtilfalpfanaanaaW.PrintMore Go.Proofs.Ytilfalpfanaanaa.Sx
set_option maxRecDepth 100000 in
theorem append_row {w : World} {base : Nat} {v : Value} {xs ys : List Int} {A : Option Addr} {m c : Nat} (ty : TypeId) (h : Kd.R (Kd.int .i64) 3 w base (fun _ => True) v xs) (hC : Kd.C (Kd.int .i64) w A m ys) (hl : (xs.length + m) * 8 ≤ 140737488355328) (hb : base ≤ w.heap.size) :
    ∃ v' w', (Builtin.append_ #[24, 24] ty #[v, .slice A m c]).run Try.prog w = .ok v' w' ∧ Kd.R (Kd.int .i64) 3 w' base (fun _ => True) v' (xs ++ ys) ∧ Ext (fun m => v.ownBlock = some m) w w' := by
  have HR := Kd.reads_of_C (d := (0 : Int)) hC
  have HO := Kd.own_of_R h
  have hi' : (Try.prog.info? 3).map (fun i => (i.zero, i.size, i.bytes)) = some (some (.int .i64 0), 1, 8) := by kernel_rfl
  obtain ⟨i0, hi, hz⟩ := Option.map_eq_some_iff.1 hi'
  simp only [Prod.mk.injEq] at hz
  obtain ⟨hz0, hz1, hz2⟩ := hz
  have ht := Try.underlying24
  have hm : ys.length = m := HR.1
  have hrun : ∃ v1 w1, (Builtin.append_ #[24, 24] ty #[v, .slice A m c]).run Try.prog w = .ok v1 w1 ∧ w1.ownsRow base 3 1 v1 (xs ++ ys).length (encs (Value.int .i64) (xs ++ ys)) ∧ w.grownBy w1 v.ownBlock := by
    rcases A with _ | ad
    · have h0 : m = 0 := by
        rcases Nat.eq_zero_or_pos m with h0 | h0
        · exact h0
        · obtain ⟨ad, h, _⟩ := HR.2.2 h0
          cases h
      subst h0
      obtain rfl : ys = [] := List.eq_nil_of_length_eq_zero hm
      refine ⟨v, w, ?_, by simpa using HO, World.grownBy.refl w _⟩
      rcases HO.2 with ⟨rfl, hn⟩ | ⟨g, cap, cur, rfl, _, _, hnc, _⟩
      · simp [Builtin.append_, run_underlying ht, sizeOf, typeInfo, hi, Builtin.lenOf, Builtin.firstCells]
      · simp [Builtin.append_, run_underlying ht, sizeOf, typeInfo, hi, Builtin.lenOf, Builtin.firstCells, hnc, storeCells]
    · have hcells : ∀ j u, (encs (Value.int .i64) ys)[j]? = some u → w.cell? (ad.add j) = some u := by
        intro j u hu
        have hj : j < ys.length := by
          rcases Nat.lt_or_ge j ys.length with h | h
          · exact h
          · simp [encs, List.getElem?_eq_none h] at hu
        obtain ⟨ad', h', hc⟩ := HR.2.2 (by omega)
        injection h' with h'
        subst h'
        rw [encs_get (d := (0 : Int)) ys j hj] at hu
        rw [← hu]
        exact hc j (by omega)
      obtain ⟨v1, w1, hr, h2, h3, _⟩ := run_append_own (P := Try.prog) w base 24 ty 3 i0 (.int .i64 0) 1 8 ht hi hz0 hz1 hz2 rfl (by omega) v xs.length (encs (Value.int .i64) xs) HO ad m c (encs (Value.int .i64) ys) (by simp [encs, hm]) hcells
        (by intro u hu; simp only [encs, List.mem_map] at hu; obtain ⟨q, _, rfl⟩ := hu; rfl) (by simp only [maxLen]; omega) hl hb
      exact ⟨v1, w1, hr, by simpa [encs, hm] using h2, h3⟩
  obtain ⟨v1, w1, hr, hown, hg⟩ := hrun
  exact ⟨v1, w1, hr, Kd.R_of_own (enc := Value.int .i64) hown (fun _ _ => trivial), ⟨hg.os, hg.tape, hg.output, hg.size, fun k hk hne => hg.block k hk (fun e => hne e.symm)⟩⟩
theorem C_take {w : World} {A : Option Addr} {l : List Int} (h : Kd.C (Kd.int .i64) w A l.length l) (m : Nat) : Kd.C (Kd.int .i64) w A (l.take m).length (l.take m) := by
  have HR := Kd.reads_of_C (d := (0 : Int)) h
  refine Kd.C_of_reads (d := (0 : Int)) (h1 := fun _ => rfl) ⟨rfl, by have := HR.2.1; rw [List.length_take]; omega, fun hn => ?_⟩
  rw [List.length_take] at hn
  obtain ⟨ad, e, hc⟩ := HR.2.2 (by omega)
  refine ⟨ad, e, fun j hj => ?_⟩
  rw [List.length_take] at hj
  have := hc j (by omega)
  rw [this]
  simp [List.getElem?_take_of_lt (show j < m by omega)]
theorem empty_row {w : World} {g base : Nat} (hg : w.heap[g]? = some (.cells #[] 3 (0, 0))) (hb : base ≤ g) : Kd.R (Kd.int .i64) 3 w base (fun _ => True) (.slice (some ⟨g, 0, none⟩) 0 0) ([] : List Int) :=
  Kd.R_of_own (enc := Value.int .i64) (xs := []) ⟨by simp [encs], .inr ⟨g, 0, #[], rfl, hb, hg, Nat.le_refl _, by simp [maxLen], rfl, by simp [encs]⟩⟩ (fun _ _ => trivial)
theorem St_app {w0 w1 w2 : World} {g : Nat} {ob : Obj} {σ : List Blk} {n c : Nat} (hS : St w0 no w1 (⟨g, true, ob⟩ :: σ)) (he : Ext (fun m => (Value.slice (some ⟨g, 0, none⟩) n c).ownBlock = some m) w1 w2) : St w0 no w2 σ ∧ ∀ k, (Value.slice (some ⟨g, 0, none⟩) n c).ownBlock = some k → w0.heap.size ≤ k := by
  have hk : ∀ k, (Value.slice (some ⟨g, 0, none⟩) n c).ownBlock = some k → g = k := fun k hk => by simpa [Value.ownBlock] using hk
  have hg := hS.own ⟨g, true, ob⟩ List.mem_cons_self rfl
  refine ⟨(hS.sub (List.sublist_cons_self _ _)).callX he (fun x hx e => ?_) (fun k h1 e => ?_), fun k e => hk k e ▸ hg⟩
  · exact (List.pairwise_cons.1 hS.sep).1 x hx (hk _ e)
  · have := hk k e; have := hg; dsimp at this; omega
def cut50 (l : List Int) : List Int := if 50 < l.length then l.take 50 else l
theorem own_list (a : Bool) (l : List Int) (h : l.length < 17592186044416) : purlieuref02_Own.f a l = some (a, l) := by
  unfold purlieuref02_Own.f
  simp [h]
theorem Own_at (a : Bool) (A : Option Addr) (c : Nat) (l : List Int) (m : Nat) (hm : l.length = m) (w : World) (hr : Kd.C (Kd.int .i64) w A l.length l) (hc : l.length ≤ c) (hs : l.length < 17592186044416) :
    Calls Try.prog 38 #[.agg #[.bool a, .slice A m c]] w fun e w' => ∃ v, e = .returned (.agg #[.bool a, v]) ∧ Kd.R (Kd.int .i64) 3 w' w.heap.size (fun _ => True) v l ∧ Below w.heap.size w w' := by
  subst hm
  exact purlieuref02_Own.calls a A c l a l w hr hc (own_list a l hs)
end Go.Proofs.Ytilfalpfanaanaa.PA

namespace Go.Proofs.Ytilfalpfanaanaa.PA
open Go.RowKit Go.Proofs.YtilfalpfanaanaaW.PrintWords Go.Proofs.YtilfalpfanaanaaW.PrintLast Go.Proofs.YtilfalpfanaanaaW.PrintMore
attribute [local go_sem] max2_int min2_int max_two min_two max_three min_three max_four min_four   -- for this text's walks alone
def purlieuref13_Get.j0 : Nat → List (S28) → Int → Int → Bool → Option (Int)
  | 0, _, _, _, _ => none
  | k + 1, x0, x1, x2, x22 => if x22 = true then (some 9) else (if 0 ≤ x1 then (if x1 < (x0.length : Int) then ((purlieuref01_Subset.f k x2 ((rd_T28 x0 x1).f1)).bind fun t143 => (if t143 = true then (some 0) else (some 93))) else (none)) else (none))
def purlieuref13_Get.f (k : Nat) (l0 : List (S28)) (a1 : Int) (a2 : Int) : Option (Int) := if a1 < 0 then (purlieuref13_Get.j0 k l0 a1 a2 true) else (if a1 ≥ (l0.length : Int) then (purlieuref13_Get.j0 k l0 a1 a2 true) else (if 0 ≤ a1 then (if a1 < (l0.length : Int) then (purlieuref13_Get.j0 k l0 a1 a2 (((rd_T28 l0 a1).f0) == 0)) else (none)) else (none)))
set_option maxHeartbeats 8000000 in
set_option maxRecDepth 100000 in
theorem purlieuref13_Get.calls (k : Nat) (A0 : Option Addr) (c0 : Nat) (l0 : List (S28)) (a1 : Int) (a2 : Int) (r : Int) (w : World) (hr0 : Kd.C k28 w A0 l0.length l0) (hc0 : l0.length ≤ c0) (h : purlieuref13_Get.f k l0 a1 a2 = some r) :
    Calls Try.prog 20 #[.slice A0 l0.length c0, .int .i64 a1, .int .u32 a2] w fun e w' => e = .returned (.int .i64 r) ∧ Drawn0 w w' := by
  have HR0 := Aside0.mk hr0
  have HC0 := Aside0.mk hc0
  clear hr0 hc0
  have H : (if a1 < 0 then (purlieuref13_Get.j0 k l0 a1 a2 true) else (if a1 ≥ (l0.length : Int) then (purlieuref13_Get.j0 k l0 a1 a2 true) else (if 0 ≤ a1 then (if a1 < (l0.length : Int) then (purlieuref13_Get.j0 k l0 a1 a2 (((rd_T28 l0 a1).f0) == 0)) else (none)) else (none)))) = some r := h
  clear h
  have HC4 := Aside0.mk H
  clear H
  go_enter Try.func20, Try.ntmps20
  go_upto_region 1 with (fail)
  go_cut [22] (fun v22 wc => ∃ (kq : Nat) (x22_3 : Bool), v22 = .bool x22_3 ∧ Aside0 (purlieuref13_Get.j0 kq l0 a1 a2 x22_3 = some r) ∧ Aside0 (kq ≤ k) ∧ Drawn0 w wc)
  case first =>
    have H := HC4.out
    clear HC4
    by_cases c5 : a1 < 0
    · rw [if_pos c5] at H
      have c5b0 : decide (a1 < 0) = true := decide_eq_true c5
      clear c5
      (first | rw [c5b0] | (simp only [i64_w, i32_w]; rw [c5b0]) | skip)
      have H' := Aside0.mk H
      clear H
      go_wp2
      go_meet
      case rel => exact ⟨_, (true), (by first | rfl | (simp; done) | (simp [*]; done)), H', ⟨by first | omega | exact Nat.le_refl _⟩, by repeat (first | exact Drawn0.refl _ | apply Drawn0.step)⟩
    · rw [if_neg c5] at H
      have c5b0 : decide (a1 < 0) = false := decide_eq_false c5
      clear c5
      (first | rw [c5b0] | (simp only [i64_w, i32_w]; rw [c5b0]) | skip)
      by_cases c6 : a1 ≥ (l0.length : Int)
      · rw [if_pos c6] at H
        have c6b0 : decide ((l0.length : Int) ≤ a1) = true := decide_eq_true c6
        clear c6
        have H' := Aside0.mk H
        clear H
        go_wp2
        go_meet
        case rel => exact ⟨_, (true), (by first | rfl | (simp; done) | (simp [*]; done)), H', ⟨by first | omega | exact Nat.le_refl _⟩, by repeat (first | exact Drawn0.refl _ | apply Drawn0.step)⟩
      · rw [if_neg c6] at H
        have c6b0 : decide ((l0.length : Int) ≤ a1) = false := decide_eq_false c6
        clear c6
        by_cases c7 : 0 ≤ a1
        · rw [if_pos c7] at H
          have c7b0 : decide (0 ≤ a1) = true := decide_eq_true c7
          clear c7
          by_cases c8 : a1 < (l0.length : Int)
          · rw [if_pos c8] at H
            have c8b0 : decide (a1 < (l0.length : Int)) = true := decide_eq_true c8
            clear c8
            have H' := Aside0.mk H
            clear H
            have p141 : 0 ≤ (a1 : Int) := of_decide_eq_true (by first | (with_reducible assumption) | assumption)
            have q141 : a1 < (l0.length : Int) := of_decide_eq_true (by first | (with_reducible assumption) | assumption)
            obtain ⟨ad141, A141_3, c141_3, e141, hx141_0, hx141_1, hx141_2, hx141_3, hx141_4, hl141_3, hi141_3⟩ := at_T28 HR0.out a1 p141 q141
            cases e141
            have HR141_3 := Aside0.mk hi141_3
            have HC141_3 := Aside0.mk hl141_3
            clear hi141_3 hl141_3
            replace p141 := eq_true p141
            replace q141 := eq_true q141
            go_wp2
            go_meet
            case rel => exact ⟨_, ((((rd_T28 l0 a1).f0) == 0)), (by first | rfl | (simp; done) | (simp [*]; done)), H', ⟨by first | omega | exact Nat.le_refl _⟩, by repeat (first | exact Drawn0.refl _ | apply Drawn0.step)⟩
          · rw [if_neg c8] at H
            exact absurd H (by simp)
        · rw [if_neg c7] at H
          exact absurd H (by simp)
  case rest =>
    clear HC4
    try clear c1
    try clear p1
    try clear q1
    try clear hx1
    try clear c2
    try clear p2
    try clear c5
    try clear c5b0
    try clear c6
    try clear c6b0
    try clear c7
    try clear c7b0
    try clear c8
    try clear c8b0
    try clear hx141_0
    try clear hx141_1
    try clear hx141_2
    try clear hx141_3
    try clear hx141_4
    try clear p141
    try clear q141
    obtain ⟨kq, x22_3, rfl, HA, HJ3, ⟨mc3, rfl⟩⟩ := hcut
    cases kq with
    | zero => exact absurd HA.out (by simp [purlieuref13_Get.j0])
    | succ kj3 =>
      have H := HA.out
      clear HA
      simp only [purlieuref13_Get.j0] at H
      by_cases c9 : x22_3 = true
      · subst c9
        have H1 : (some 9) = some r := by rw [if_pos rfl] at H; exact H
        clear H
        have H := H1
        clear H1
        obtain rfl := Option.some.inj H
        go_wp2
        go_ret
        exact ⟨by first | rfl | (simp; done) | (simp [*]; done), by repeat (first | exact Drawn0.refl _ | apply Drawn0.step)⟩
      · replace c9 := Bool.eq_false_iff.mpr c9
        subst c9
        have H1 : (if 0 ≤ a1 then (if a1 < (l0.length : Int) then ((purlieuref01_Subset.f kj3 a2 ((rd_T28 l0 a1).f1)).bind fun t143 => (if t143 = true then (some 0) else (some 93))) else (none)) else (none)) = some r := by rw [if_neg (show ¬ (false = true) by decide)] at H; exact H
        clear H
        have H := H1
        clear H1
        by_cases c10 : 0 ≤ a1
        · rw [if_pos c10] at H
          have c10b0 : decide (0 ≤ a1) = true := decide_eq_true c10
          clear c10
          by_cases c11 : a1 < (l0.length : Int)
          · rw [if_pos c11] at H
            have c11b0 : decide (a1 < (l0.length : Int)) = true := decide_eq_true c11
            clear c11
            replace H := Option.bind_eq_some_iff.mp H
            obtain ⟨t143, A120, H⟩ := H
            replace H : (if t143 = true then (some 0) else (some 93)) = some r := H
            have A12 := Aside0.mk A120
            clear A120
            by_cases c13 : t143 = true
            · subst c13
              have H1 : (some 0) = some r := by rw [if_pos rfl] at H; exact H
              clear H
              have H := H1
              clear H1
              obtain rfl := Option.some.inj H
              have p142 : 0 ≤ (a1 : Int) := of_decide_eq_true (by first | (with_reducible assumption) | assumption)
              have q142 : a1 < (l0.length : Int) := of_decide_eq_true (by first | (with_reducible assumption) | assumption)
              obtain ⟨ad142, A142_3, c142_3, e142, hx142_0, hx142_1, hx142_2, hx142_3, hx142_4, hl142_3, hi142_3⟩ := at_T28 HR0.out a1 p142 q142
              cases e142
              have HR142_3 := Aside0.mk hi142_3
              have HC142_3 := Aside0.mk hl142_3
              clear hi142_3 hl142_3
              replace p142 := eq_true p142
              replace q142 := eq_true q142
              go_wp2_with (first | ((with_reducible refine gate_callee (f := 41) rfl ?_); refine goesL_ (some 29) rfl rfl Try.func41 (by kernel_rfl) rfl #[.int .u32 a2, .int .u32 ((rd_T28 l0 a1).f1)] rfl (by (try simp only [List.map_toArray, List.map_cons, List.map_nil]); first | done | rfl | (simp only [List.length_drop, List.length_take]; rfl)) ?_; (with_reducible refine (purlieuref01_Subset.calls kj3 a2 ((rd_T28 l0 a1).f1) true _ A12.out).mono ?_); rintro e w' ⟨rfl, ⟨nd, rfl⟩⟩; refine ⟨_, rfl, ?_⟩))
              go_ret
              exact ⟨by first | rfl | (simp; done) | (simp [*]; done), by repeat (first | exact Drawn0.refl _ | apply Drawn0.step)⟩
            · replace c13 := Bool.eq_false_iff.mpr c13
              subst c13
              have H1 : (some 93) = some r := by rw [if_neg (show ¬ (false = true) by decide)] at H; exact H
              clear H
              have H := H1
              clear H1
              obtain rfl := Option.some.inj H
              have p142 : 0 ≤ (a1 : Int) := of_decide_eq_true (by first | (with_reducible assumption) | assumption)
              have q142 : a1 < (l0.length : Int) := of_decide_eq_true (by first | (with_reducible assumption) | assumption)
              obtain ⟨ad142, A142_3, c142_3, e142, hx142_0, hx142_1, hx142_2, hx142_3, hx142_4, hl142_3, hi142_3⟩ := at_T28 HR0.out a1 p142 q142
              cases e142
              have HR142_3 := Aside0.mk hi142_3
              have HC142_3 := Aside0.mk hl142_3
              clear hi142_3 hl142_3
              replace p142 := eq_true p142
              replace q142 := eq_true q142
              go_wp2_with (first | ((with_reducible refine gate_callee (f := 41) rfl ?_); refine goesL_ (some 29) rfl rfl Try.func41 (by kernel_rfl) rfl #[.int .u32 a2, .int .u32 ((rd_T28 l0 a1).f1)] rfl (by (try simp only [List.map_toArray, List.map_cons, List.map_nil]); first | done | rfl | (simp only [List.length_drop, List.length_take]; rfl)) ?_; (with_reducible refine (purlieuref01_Subset.calls kj3 a2 ((rd_T28 l0 a1).f1) false _ A12.out).mono ?_); rintro e w' ⟨rfl, ⟨nd, rfl⟩⟩; refine ⟨_, rfl, ?_⟩))
              go_ret
              exact ⟨by first | rfl | (simp; done) | (simp [*]; done), by repeat (first | exact Drawn0.refl _ | apply Drawn0.step)⟩
          · rw [if_neg c11] at H
            exact absurd H (by simp)
        · rw [if_neg c10] at H
          exact absurd H (by simp)
end Go.Proofs.Ytilfalpfanaanaa.PA
