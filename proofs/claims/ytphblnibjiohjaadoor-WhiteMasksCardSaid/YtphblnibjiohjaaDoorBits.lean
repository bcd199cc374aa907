/- Bits of an int: what '&', '|', '&^' and '>>' tell, bit by bit; no program in sight. -/
import Derived.Test.YtphblnibjiohjaaDoorPAx0
namespace Go.Proofs.YtphblnibjiohjaaDoor.BitsLaw
open Go.Proofs.YtphblnibjiohjaaDoorW.PrintWords Go.Proofs.YtphblnibjiohjaaDoorW.PrintMore Go.RowKit
def bv (a : Int) : BitVec 64 := BitVec.ofInt 64 a
def bt64 (a : Int) (i : Nat) : Bool := (bv a).getLsbD i

theorem bv_toNat (a : Int) : (bv a).toNat = (a % 18446744073709551616).toNat := by
  unfold bv
  rw [BitVec.toNat_ofInt]
  rfl
theorem parity (a : Int) (i : Nat) (hi : i < 64) : (a % 18446744073709551616) / (2 : Int) ^ i % 2 = a / (2 : Int) ^ i % 2 := by
  have hM : (18446744073709551616 : Int) = (2 : Int) ^ i * (2 * (2 : Int) ^ (63 - i)) :=
    (show ∀ i : Fin 64, (18446744073709551616 : Int) = (2 : Int) ^ i.val * (2 * (2 : Int) ^ (63 - i.val)) by decide +kernel) ⟨i, hi⟩
  have hp : (2 : Int) ^ i ≠ 0 := Int.pow_ne_zero (by decide)
  have h1 : a % 18446744073709551616 = a + (2 : Int) ^ i * (2 * (-((2 : Int) ^ (63 - i) * (a / 18446744073709551616)))) := by
    have h2 := Int.emod_add_mul_ediv a 18446744073709551616
    have h3 : (18446744073709551616 : Int) * (a / 18446744073709551616) = (2 : Int) ^ i * (2 * ((2 : Int) ^ (63 - i) * (a / 18446744073709551616))) := by
      calc (18446744073709551616 : Int) * (a / 18446744073709551616) = ((2 : Int) ^ i * (2 * (2 : Int) ^ (63 - i))) * (a / 18446744073709551616) := by rw [← hM]
        _ = _ := by rw [Int.mul_assoc, Int.mul_assoc]
    rw [Int.mul_neg, Int.mul_neg, ← h3]
    omega
  rw [h1, Int.add_mul_ediv_left _ _ hp]
  omega
theorem bt64_eq (a : Int) (i : Nat) (hi : i < 64) : bt64 a i = decide (a / (2 : Int) ^ i % 2 = 1) := by
  unfold bt64
  rw [BitVec.getLsbD, bv_toNat, Nat.testBit_eq_decide_div_mod_eq, ← parity a i hi]
  have h0 : 0 ≤ a % 18446744073709551616 := Int.emod_nonneg _ (by decide)
  obtain ⟨m, hm⟩ := Int.eq_ofNat_of_zero_le h0
  rw [hm]
  rw [show ((2 : Int) ^ i) = ((2 ^ i : Nat) : Int) by simp]
  simp only [Int.toNat_natCast]
  rw [decide_eq_decide]
  constructor
  · intro h
    have h2 : ((m / 2 ^ i % 2 : Nat) : Int) = 1 := by rw [h]; rfl
    simpa using h2
  · intro h
    have h2 : ((m / 2 ^ i % 2 : Nat) : Int) = 1 := by simpa using h
    omega

theorem wrap_zero (m : Nat) (_hm : m < 18446744073709551616) : IntKind.i64.wrap (m : Int) = 0 ↔ m = 0 := by
  rw [IntKind.wrap_i64]
  omega
theorem wrap_bv (m : Nat) (_hm : m < 18446744073709551616) : bv (IntKind.i64.wrap (m : Int)) = BitVec.ofNat 64 m := by
  apply BitVec.eq_of_toNat_eq
  rw [bv_toNat, BitVec.toNat_ofNat, IntKind.wrap_i64]
  omega

def opOf (op : BinOp) (x y : BitVec 64) : BitVec 64 := match op with | .and => x &&& y | .or => x ||| y | .xor => x ^^^ y | _ => x &&& ~~~y
theorem bits_eq (op : BinOp) (a b : Int) : bits op .i64 a b = IntKind.i64.wrap ((opOf op (bv a) (bv b)).toNat : Int) := by
  unfold bits opOf bv
  cases op <;> rfl
theorem bits_bv (op : BinOp) (a b : Int) : bv (bits op .i64 a b) = opOf op (bv a) (bv b) := by
  rw [bits_eq, wrap_bv _ (opOf op (bv a) (bv b)).isLt, BitVec.ofNat_toNat, BitVec.setWidth_eq]
theorem bits_zero (op : BinOp) (a b : Int) : bits op .i64 a b = 0 ↔ opOf op (bv a) (bv b) = 0 := by
  rw [bits_eq, wrap_zero _ (opOf op (bv a) (bv b)).isLt]
  constructor
  · intro h; apply BitVec.eq_of_toNat_eq; rw [h]; rfl
  · intro h; rw [h]; rfl
theorem bv_zero_iff (x : BitVec 64) : x = 0 ↔ ∀ i, i < 64 → x.getLsbD i = false := by
  constructor
  · rintro rfl i _; simp
  · intro h; apply BitVec.eq_of_getLsbD_eq; intro i hi; rw [h i hi]; simp
theorem andNot_zero (a b : Int) : bits .andNot .i64 a b = 0 ↔ ∀ i, i < 64 → bt64 a i = true → bt64 b i = true := by
  rw [bits_zero, bv_zero_iff]
  constructor
  · intro h i hi ha
    have := h i hi
    simp only [opOf, BitVec.getLsbD_and, BitVec.getLsbD_not, hi, decide_true, Bool.true_and] at this
    unfold bt64 at ha ⊢
    rw [ha] at this
    simpa using this
  · intro h i hi
    have := h i hi
    simp only [opOf, BitVec.getLsbD_and, BitVec.getLsbD_not, hi, decide_true, Bool.true_and]
    unfold bt64 at this
    cases hc : (bv a).getLsbD i with
    | false => rfl
    | true => rw [this hc]; rfl
theorem or_bit (a b : Int) (i : Nat) : bt64 (bits .or .i64 a b) i = (bt64 a i || bt64 b i) := by
  unfold bt64
  rw [bits_bv]
  simp [opOf]
theorem and_bit (a b : Int) (i : Nat) : bt64 (bits .and .i64 a b) i = (bt64 a i && bt64 b i) := by
  unfold bt64
  rw [bits_bv]
  simp [opOf]
theorem and_zero (a b : Int) : bits .and .i64 a b = 0 ↔ ∀ i, i < 64 → bt64 a i = true → bt64 b i = false := by
  rw [bits_zero, bv_zero_iff]
  constructor
  · intro h i hi ha
    have := h i hi
    simp only [opOf, BitVec.getLsbD_and] at this
    unfold bt64 at ha ⊢
    rw [ha] at this
    simpa using this
  · intro h i hi
    have := h i hi
    simp only [opOf, BitVec.getLsbD_and]
    unfold bt64 at this
    cases hc : (bv a).getLsbD i with
    | false => rfl
    | true => rw [this hc]; rfl
theorem and_one (x : Int) : (bits .and .i64 x 1 == 1) = decide (x % 2 = 1) := by
  rw [bits_eq]
  have h1 : (opOf .and (bv x) (bv 1)).toNat = (x % 18446744073709551616).toNat % 2 := by
    show (bv x &&& bv 1).toNat = _
    rw [BitVec.toNat_and, bv_toNat, bv_toNat]
    exact Nat.and_one_is_mod _
  rw [h1, IntKind.wrap_i64]
  rw [Bool.eq_iff_iff, beq_iff_eq, decide_eq_true_iff]
  omega
theorem shr_bit (a : Int) (i : Nat) (hi : i < 64) : (bits .and .i64 (shr .i64 a (IntKind.u64.wrap ((i : Nat) : Int))) 1 == 1) = bt64 a i := by
  rw [and_one, bt64_eq a i hi]
  have h : IntKind.u64.wrap ((i : Nat) : Int) = (i : Int) := by simp [IntKind.wrap, IntKind.bits, IntKind.signed]; omega
  rw [h]
  unfold shr
  rw [Int.toNat_natCast, Nat.min_eq_left (by simp [IntKind.bits]; omega)]
end Go.Proofs.YtphblnibjiohjaaDoor.BitsLaw
