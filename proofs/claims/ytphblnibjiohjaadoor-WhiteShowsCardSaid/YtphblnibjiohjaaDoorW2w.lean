/- A whitelist's text: what purlieuref02.Show answers, and that other whitelists have another text. -/
import Derived.Test.YtphblnibjiohjaaDoorW2
import Derived.Test.YtphblnibjiohjaaDoorW1b
import Derived.Test.YtphblnibjiohjaaDoorShowT
import Derived.Laws.Strings
import Derived.Test.YtphblnibjiohjaaDoorPAx10
namespace Go.Proofs.YtphblnibjiohjaaDoor.PA
open Go.RowKit Go.Proofs.YtphblnibjiohjaaDoorW.PrintWords Go.Proofs.YtphblnibjiohjaaDoorW.PrintLast Go.Proofs.YtphblnibjiohjaaDoorW.PrintMore
set_option linter.unusedVariables false

/-! the digits -/
theorem dig_piece : ∀ i : Nat, i < 10 → ((⟨#[48, 49, 50, 51, 52, 53, 54, 55, 56, 57]⟩ : ByteArray).extract i (i + 1)) = ⟨#[UInt8.ofNat (48 + i)]⟩ := by
  intro i hi
  rcases i with _ | _ | _ | _ | _ | _ | _ | _ | _ | _ | i <;> first | rfl | omega
theorem dec_len : ∀ (d u : Nat), u < 10 ^ d → 1 ≤ d → (Lib.decDigits u).length ≤ d := by
  intro d
  induction d with
  | zero => intro u _ h; omega
  | succ d ih =>
    intro u hu _
    rw [Lib.decDigits]
    split
    · simp
    · rename_i h
      have hd : 1 ≤ d := by
        rcases Nat.eq_zero_or_pos d with rfl | h'
        · simp at hu; omega
        · exact h'
      have := ih (u / 10) (by rw [Nat.pow_succ] at hu; omega) hd
      rw [List.length_append]
      simp; omega
theorem num_dec : ∀ (d u k : Nat), u < 10 ^ d → 1 ≤ d → d ≤ 19 → d + 1 < k → u ≤ 9223372036854775807 → purlieuref02_Num.f k (u : Int) = some ⟨(Lib.decDigits u).toArray⟩ := by
  intro d
  induction d with
  | zero => intro u k _ h; omega
  | succ d ih =>
    intro u k hu _ hd hk hm
    obtain ⟨k, rfl⟩ : ∃ j, k = j + 1 := ⟨k - 1, by omega⟩
    simp only [purlieuref02_Num.f]
    rw [if_neg (by omega), if_neg (by omega)]
    by_cases h : u < 10
    · have hw : wrap64 ((u : Int) + 1) = ((u + 1 : Nat) : Int) := by unfold wrap64; omega
      rw [if_pos (by omega), if_pos (by omega), hw, if_pos (by omega), if_pos (by omega), Lib.decDigits, dif_pos h, Int.toNat_natCast, Int.toNat_natCast, dig_piece u h]
    · have hd1 : 1 ≤ d := by
        rcases Nat.eq_zero_or_pos d with rfl | h'
        · simp at hu; omega
        · exact h'
      have h1 : wrap64 (Int.tdiv (u : Int) 10) = ((u / 10 : Nat) : Int) := by
        rw [Int.tdiv_eq_ediv_of_nonneg (by omega)]; unfold wrap64; omega
      have h2 : Int.tmod (u : Int) 10 = ((u % 10 : Nat) : Int) := by
        rw [Int.tmod_eq_emod_of_nonneg (by omega)]; omega
      have e1 := ih (u / 10) k (by rw [Nat.pow_succ] at hu; omega) hd1 (by omega) (by omega) (by omega)
      have e2 := ih (u % 10) k (Nat.lt_of_lt_of_le (Nat.mod_lt _ (by omega)) (by have := Nat.pow_le_pow_right (n := 10) (by omega) hd1; omega)) hd1 (by omega) (by omega) (by omega)
      have l1 := dec_len d (u / 10) (by rw [Nat.pow_succ] at hu; omega) hd1
      rw [if_neg (by omega), h1, h2, e1, e2]
      simp only [Option.bind_some]
      have d2 : Lib.decDigits (u % 10) = [UInt8.ofNat (48 + u % 10)] := by rw [Lib.decDigits, dif_pos (Nat.mod_lt _ (by omega))]
      rw [d2, if_pos (by simp only [ByteArray.size, List.size_toArray, List.length_cons, List.length_nil]; omega)]
      congr 1
      rw [Lib.decDigits.eq_def u, dif_neg h]
      apply ByteArray.ext
      simp
theorem num_eq (n : Int) (h0 : -9223372036854775808 ≤ n) (h1 : n ≤ 9223372036854775807) (k : Nat) (hk : 25 < k) : purlieuref02_Num.f k n = some (num n) := by
  obtain ⟨k, rfl⟩ : ∃ j, k = j + 1 := ⟨k - 1, by omega⟩
  by_cases hm : n = -9223372036854775808
  · subst hm
    unfold purlieuref02_Num.f
    rw [if_pos rfl]
    have : num (-9223372036854775808) = ⟨#[45, 57, 50, 50, 51, 51, 55, 50, 48, 51, 54, 56, 53, 52, 55, 55, 53, 56, 48, 56]⟩ := by
      unfold num Lib.itoa
      rw [if_pos (by omega)]
      simp [Lib.decDigits]
    rw [this]
  · by_cases hn : n < 0
    · obtain ⟨u, hu⟩ : ∃ u : Nat, -n = u := ⟨(-n).toNat, by omega⟩
      have hw : wrap64 (-n) = (u : Int) := by unfold wrap64; omega
      have e := num_dec 19 u k (by omega) (by omega) (by omega) (by omega) (by omega)
      have l1 := dec_len 19 u (by omega) (by omega)
      simp only [purlieuref02_Num.f]
      rw [if_neg hm, if_pos hn, hw, e]
      simp only [Option.bind_some]
      rw [if_pos (by simp only [ByteArray.size, List.size_toArray]; omega)]
      congr 1
      unfold num Lib.itoa
      rw [if_pos hn, show n.natAbs = u by omega]
      apply ByteArray.ext
      simp
    · obtain ⟨u, rfl⟩ := Int.eq_ofNat_of_zero_le (Int.not_lt.1 hn)
      have e := num_dec 19 u (k + 1) (by omega) (by omega) (by omega) (by omega) (by omega)
      unfold num Lib.itoa
      rw [if_neg hn, Int.toNat_natCast]
      exact e

/-! the text -/
theorem num_size (n : Int) (h0 : -9223372036854775808 ≤ n) (h1 : n ≤ 9223372036854775807) : (num n).size ≤ 21 := by
  have := Lib.itoa_length_le n h0 h1
  simpa [num, ByteArray.size] using this
def glue (s : List UInt8) (r : List Int) : List UInt8 := s ++ Lib.joinTail [44] (r.map Lib.itoa)
theorem rshow_l0 (l : List Int) (hl : l.length ≤ 1000) (hb : ∀ x ∈ l, -9223372036854775808 ≤ x ∧ x ≤ 9223372036854775807) : ∀ (d k i : Nat) (s : ByteArray), i + d = l.length → d + 30 < k → 1 ≤ i → s.size ≤ 22 * i → s.size ≠ 0 →
    purlieuref02_Show.l0 k s (i : Int) false l = some ⟨(glue s.data.toList (l.drop i)).toArray⟩ := by
  intro d
  induction d with
  | zero =>
    intro k i s hi hk h1 hs hz
    obtain ⟨k, rfl⟩ : ∃ j, k = j + 1 := ⟨k - 1, by omega⟩
    simp only [purlieuref02_Show.l0]
    rw [if_neg (by omega), if_neg (fun h => hz (by rw [ByteArray.toList_eq] at h; show s.data.size = 0; rw [← Array.length_toList, h]; rfl)), List.drop_of_length_le (by omega)]
    simp [glue, Lib.joinTail]
  | succ d ih =>
    intro k i s hi hk h1 hs hz
    obtain ⟨k, rfl⟩ : ∃ j, k = j + 1 := ⟨k - 1, by omega⟩
    have h : i < l.length := by omega
    have hx := hb l[i] (List.getElem_mem h)
    have hn := num_size l[i] hx.1 hx.2
    simp only [purlieuref02_Show.l0]
    rw [if_pos (by omega), if_pos (by omega), if_pos (by omega), if_pos (by omega), rd_nat, gd h, num_eq l[i] hx.1 hx.2 k (by omega)]
    simp only [Option.bind_some]
    have hz2 : (s ++ (⟨#[44]⟩ : ByteArray)).size = s.size + 1 := by rw [ByteArray.size_append]; rfl
    rw [if_pos (by omega), wrap_step (by omega), ih k (i + 1) _ (by omega) (by omega) (by omega) (by rw [ByteArray.size_append]; omega) (by rw [ByteArray.size_append]; omega), List.drop_eq_getElem_cons h]
    congr 3
    rw [glue, glue, List.map_cons]
    simp [Lib.joinTail, num]
theorem rshow_eq (a : Bool) (l : List Int) (hl : l.length ≤ 1000) (hb : ∀ x ∈ l, -9223372036854775808 ≤ x ∧ x ≤ 9223372036854775807) (k : Nat) (hk : l.length + 40 < k) : purlieuref02_Show.f k a l = some ⟨(showL a l).toArray⟩ := by
  unfold purlieuref02_Show.f showL
  rw [rcan_eq a l (by omega) k (by omega)]
  simp only [Option.bind_some]
  by_cases hc : canB a l = true
  · rw [if_pos hc, if_pos hc]
    cases a with
    | true => rw [if_pos rfl, if_pos rfl]
    | false =>
      rw [if_neg (by simp), if_neg (by simp)]
      obtain ⟨k, rfl⟩ : ∃ j, k = j + 1 := ⟨k - 1, by omega⟩
      cases l with
      | nil => simp [purlieuref02_Show.l0]
      | cons x r =>
        have hx := hb x (List.mem_cons_self)
        have hn := num_size x hx.1 hx.2
        rw [List.length_cons] at hl hk
        simp only [purlieuref02_Show.l0]
        rw [if_pos (by rw [List.length_cons]; omega), if_neg (by omega), if_pos (by omega), show rd (x :: r) 0 = x from rfl, num_eq x hx.1 hx.2 k (by omega)]
        simp only [Option.bind_some]
        have z0 : ((⟨#[]⟩ : ByteArray)).size = 0 := rfl
        have z1 : (⟨#[]⟩ : ByteArray) ++ num x = num x := by apply ByteArray.ext; simp
        have z2 : (num x).size ≠ 0 := by
          have h2 : Lib.itoa x ≠ [] := by
            unfold Lib.itoa
            split
            · simp
            · rw [Lib.decDigits]; split <;> simp
          intro h3
          exact h2 (List.eq_nil_of_length_eq_zero (by simpa [num, ByteArray.size] using h3))
        rw [if_pos (by rw [z0]; omega), z1, show wrap64 (0 + 1) = ((1 : Nat) : Int) by unfold wrap64; omega, rshow_l0 (x :: r) (by rw [List.length_cons]; omega) hb r.length k 1 _ (by rw [List.length_cons]; omega) (by omega) (by omega) (by omega) z2, if_neg (by simp)]
        congr 3
        rw [List.map_cons, Lib.join_cons]
        simp [glue, num]
  · rw [if_neg hc, if_neg hc]

/-! other whitelists have another text -/
def isDig (c : UInt8) : Prop := 48 ≤ c.toNat ∧ c.toNat ≤ 57
theorem dec_dig : ∀ (u : Nat), ∀ c ∈ Lib.decDigits u, isDig c := by
  intro u
  induction u using Nat.strongRecOn with
  | _ u ih =>
  intro c hc
  rw [Lib.decDigits] at hc
  have h1 : ∀ v, v < 10 → isDig (UInt8.ofNat (48 + v)) := by
    intro v hv
    unfold isDig
    rw [UInt8.toNat_ofNat']
    omega
  split at hc
  · rename_i h
    simp only [List.mem_singleton] at hc
    subst hc
    exact h1 u h
  · rename_i h
    rcases List.mem_append.1 hc with h2 | h2
    · exact ih (u / 10) (by omega) c h2
    · simp only [List.mem_singleton] at h2
      subst h2
      exact h1 _ (Nat.mod_lt _ (by omega))
def valD (l : List UInt8) : Nat := l.foldl (fun a c => 10 * a + (c.toNat - 48)) 0
theorem dec_val : ∀ (u : Nat), valD (Lib.decDigits u) = u := by
  intro u
  induction u using Nat.strongRecOn with
  | _ u ih =>
  have h1 : ∀ v, v < 10 → (UInt8.ofNat (48 + v)).toNat - 48 = v := by
    intro v hv
    rw [UInt8.toNat_ofNat']
    omega
  rw [Lib.decDigits]
  split
  · rename_i h
    simp only [valD, List.foldl_cons, List.foldl_nil]
    rw [h1 u h]
    omega
  · rename_i h
    have := ih (u / 10) (by omega)
    unfold valD at this ⊢
    rw [List.foldl_append, this]
    simp only [List.foldl_cons, List.foldl_nil]
    rw [h1 _ (Nat.mod_lt _ (by omega))]
    omega
theorem itoa_inj {m n : Int} (hm : 0 ≤ m) (hn : 0 ≤ n) (h : Lib.itoa m = Lib.itoa n) : m = n := by
  obtain ⟨u, rfl⟩ := Int.eq_ofNat_of_zero_le hm
  obtain ⟨v, rfl⟩ := Int.eq_ofNat_of_zero_le hn
  rw [Lib.itoa_nonneg, Lib.itoa_nonneg] at h
  rw [← dec_val u, ← dec_val v, h]
theorem itoa_dig {n : Int} (hn : 0 ≤ n) : ∀ c ∈ Lib.itoa n, isDig c := by
  obtain ⟨u, rfl⟩ := Int.eq_ofNat_of_zero_le hn
  rw [Lib.itoa_nonneg]
  exact dec_dig u
theorem dec_ne (u : Nat) : Lib.decDigits u ≠ [] := by rw [Lib.decDigits]; split <;> simp
theorem itoa_ne {n : Int} (hn : 0 ≤ n) : Lib.itoa n ≠ [] := by
  obtain ⟨u, rfl⟩ := Int.eq_ofNat_of_zero_le hn
  rw [Lib.itoa_nonneg]
  exact dec_ne u
theorem tail_form (l : List Int) : Lib.joinTail [44] (l.map Lib.itoa) = [] ∨ ∃ r, Lib.joinTail [44] (l.map Lib.itoa) = 44 :: r := by
  cases l with
  | nil => left; rfl
  | cons x r => right; exact ⟨_, by simp [Lib.joinTail]; rfl⟩
theorem tail_cons (x : Int) (r : List Int) : Lib.joinTail [44] ((x :: r).map Lib.itoa) = 44 :: (Lib.itoa x ++ Lib.joinTail [44] (r.map Lib.itoa)) := by simp [Lib.joinTail]
theorem split_dig : ∀ (x y s t : List UInt8), (∀ c ∈ x, isDig c) → (∀ c ∈ y, isDig c) → (s = [] ∨ ∃ r, s = 44 :: r) → (t = [] ∨ ∃ r, t = 44 :: r) → x ++ s = y ++ t → x = y ∧ s = t := by
  intro x
  induction x with
  | nil =>
    intro y s t _ hy hs ht h
    cases y with
    | nil => exact ⟨rfl, by simpa using h⟩
    | cons c y =>
      exfalso
      have hc := hy c List.mem_cons_self
      rcases hs with rfl | ⟨r, rfl⟩
      · simp at h
      · simp only [List.nil_append, List.cons_append, List.cons.injEq] at h
        obtain ⟨rfl, -⟩ := h
        unfold isDig at hc
        simp at hc
  | cons c x ih =>
    intro y s t hx hy hs ht h
    cases y with
    | nil =>
      exfalso
      have hc := hx c List.mem_cons_self
      rcases ht with rfl | ⟨r, rfl⟩
      · simp at h
      · simp only [List.nil_append, List.cons_append, List.cons.injEq] at h
        obtain ⟨rfl, -⟩ := h
        unfold isDig at hc
        simp at hc
    | cons d y =>
      simp only [List.cons_append, List.cons.injEq] at h
      obtain ⟨rfl, h⟩ := h
      obtain ⟨rfl, rfl⟩ := ih y s t (fun e he => hx e (List.mem_cons_of_mem _ he)) (fun e he => hy e (List.mem_cons_of_mem _ he)) hs ht h
      exact ⟨rfl, rfl⟩
theorem tail_inj : ∀ (l m : List Int), (∀ x ∈ l, 0 ≤ x) → (∀ x ∈ m, 0 ≤ x) → Lib.joinTail [44] (l.map Lib.itoa) = Lib.joinTail [44] (m.map Lib.itoa) → l = m := by
  intro l
  induction l with
  | nil =>
    intro m _ _ h
    cases m with
    | nil => rfl
    | cons y m => rw [tail_cons] at h; exact absurd h (by simp [Lib.joinTail])
  | cons x l ih =>
    intro m hl hm h
    cases m with
    | nil => rw [tail_cons] at h; exact absurd h (by simp [Lib.joinTail])
    | cons y m =>
      rw [tail_cons, tail_cons] at h
      have h0 := hl x List.mem_cons_self
      have h1 := hm y List.mem_cons_self
      obtain ⟨h2, h3⟩ := split_dig _ _ _ _ (itoa_dig h0) (itoa_dig h1) (tail_form l) (tail_form m) (List.cons.inj h).2
      rw [itoa_inj h0 h1 h2, ih m (fun e he => hl e (List.mem_cons_of_mem _ he)) (fun e he => hm e (List.mem_cons_of_mem _ he)) h3]
theorem join_head {l : List Int} (hl : l ≠ []) (h0 : ∀ x ∈ l, 0 ≤ x) : ∃ c r, Lib.join (l.map Lib.itoa) [44] = c :: r ∧ isDig c := by
  cases l with
  | nil => exact absurd rfl hl
  | cons x r =>
    have hx := h0 x List.mem_cons_self
    rw [List.map_cons, Lib.join_cons]
    have := itoa_ne hx
    have hd := itoa_dig hx
    cases hi : Lib.itoa x with
    | nil => exact absurd hi this
    | cons c s => exact ⟨c, _, rfl, hd c (by rw [hi]; exact List.mem_cons_self)⟩
theorem join_inj {l m : List Int} (hl : l ≠ []) (hm : m ≠ []) (h0 : ∀ x ∈ l, 0 ≤ x) (h1 : ∀ x ∈ m, 0 ≤ x) (h : Lib.join (l.map Lib.itoa) [44] = Lib.join (m.map Lib.itoa) [44]) : l = m := by
  cases l with
  | nil => exact absurd rfl hl
  | cons x r =>
    cases m with
    | nil => exact absurd rfl hm
    | cons y s =>
      rw [List.map_cons, List.map_cons, Lib.join_cons, Lib.join_cons] at h
      refine tail_inj _ _ h0 h1 ?_
      rw [tail_cons, tail_cons, h]
theorem canB_pos {a : Bool} {l : List Int} (h : canB a l = true) : ∀ x ∈ l, 0 ≤ x := by
  cases a with
  | true =>
    unfold canB at h
    rw [if_pos rfl] at h
    have : l = [] := List.eq_nil_of_length_eq_zero (by simpa using h)
    subst this
    simp
  | false => exact ((canL_iff' l).1 h).2.1
theorem show_inj (a b : Bool) (l m : List Int) (ha : canB a l = true) (hb : canB b m = true) : showL a l = showL b m ↔ (a = b ∧ l = m) := by
  constructor
  · intro h
    have pl := canB_pos ha
    have pm := canB_pos hb
    unfold showL at h
    rw [if_pos ha, if_pos hb] at h
    have nil_of : ∀ {r : List Int}, canB true r = true → r = [] := by
      intro r hr
      unfold canB at hr
      rw [if_pos rfl] at hr
      exact List.eq_nil_of_length_eq_zero (by simpa using hr)
    have nodig : ∀ {r : List Int} {c : UInt8} {s : List UInt8}, r ≠ [] → (∀ x ∈ r, 0 ≤ x) → (57 < c.toNat) → Lib.join (r.map Lib.itoa) [44] ≠ c :: s := by
      intro r c s hr h0 hc e
      obtain ⟨d, t, hd, hdig⟩ := join_head hr h0
      rw [hd] at e
      obtain ⟨rfl, -⟩ := List.cons.inj e
      unfold isDig at hdig
      omega
    cases a with
    | true =>
      rw [if_pos rfl] at h
      cases b with
      | true => rw [nil_of ha, nil_of hb]; exact ⟨rfl, rfl⟩
      | false =>
        rw [if_neg (by simp)] at h
        exfalso
        by_cases hm : m = []
        · rw [if_pos hm] at h; simp at h
        · rw [if_neg hm] at h; exact nodig hm pm (by decide) h.symm
    | false =>
      rw [if_neg (by decide : ¬ false = true)] at h
      cases b with
      | true =>
        rw [if_pos (rfl : true = true)] at h
        exfalso
        by_cases hm : l = []
        · rw [if_pos hm] at h; simp at h
        · rw [if_neg hm] at h; exact nodig hm pl (by decide) h
      | false =>
        rw [if_neg (by decide : ¬ false = true)] at h
        refine ⟨rfl, ?_⟩
        by_cases hl : l = []
        · rw [if_pos hl] at h
          by_cases hm : m = []
          · rw [hl, hm]
          · rw [if_neg hm] at h; exact absurd h.symm (nodig hm pm (by decide))
        · rw [if_neg hl] at h
          by_cases hm : m = []
          · rw [if_pos hm] at h; exact absurd h (nodig hl pl (by decide))
          · rw [if_neg hm] at h; exact join_inj hl hm pl pm h
  · rintro ⟨rfl, rfl⟩; rfl
end Go.Proofs.YtphblnibjiohjaaDoor.PA
