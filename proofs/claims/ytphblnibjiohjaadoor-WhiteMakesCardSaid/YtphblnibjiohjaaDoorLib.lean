/- slices.Clone, slices.Sort and slices.Compact at []int, said of rows that the call itself owns, for every row. -/
import Derived.Test.YtphblnibjiohjaaDoorShelf
import Derived.Sort.OwnSorted
import Derived.Test.YtphblnibjiohjaaDoorPAx0
namespace Go.Proofs.YtphblnibjiohjaaDoor.LibRow
open Go.RowKit Go.Lib Go.Sort Go.Proofs.YtphblnibjiohjaaDoorW.PrintWords Go.Proofs.YtphblnibjiohjaaDoorW.PrintLast Go.Proofs.YtphblnibjiohjaaDoorW.PrintMore
set_option linter.unusedVariables false
set_option linter.unusedSimpArgs false

theorem clone_row (A : Option Addr) (c : Nat) (l : List Int) (w : World) (hr : Kd.C (Kd.int .i64) w A l.length l) (hbig : l.length * 8 ≤ 140737488355328) :
    Calls Tryd.prog 46 #[.slice A l.length c] w fun e w' => ∃ v, e = .returned v ∧ Kd.R (Kd.int .i64) 3 w' w.heap.size (fun _ => True) v l ∧ Below w.heap.size w w' := by
  have hrd := Kd.reads_of_C (d := (0 : Int)) hr
  cases A with
  | none =>
    have hl : l = [] := by
      rcases Nat.eq_zero_or_pos l.length with h | h
      · exact List.eq_nil_of_length_eq_zero h
      · obtain ⟨ad, e, _⟩ := hrd.2.2 h
        cases e
    subst hl
    refine (Tryd.slices_Clone_int_nil _ c w).mono ?_
    rintro e w' ⟨rfl, rfl⟩
    exact ⟨_, rfl, Kd.R_nil _ _ _ _ _, Below.refl _ _⟩
  | some a =>
    rcases Nat.eq_zero_or_pos l.length with h | h
    · have hl : l = [] := List.eq_nil_of_length_eq_zero h
      subst hl
      refine (Tryd.slices_Clone_int_zero a c w).mono ?_
      rintro e w' ⟨v, rfl, ho, _, hb⟩
      exact ⟨v, rfl, Kd.R_of_own (enc := Value.int .i64) (xs := []) ho (fun _ _ => trivial), hb⟩
    · obtain ⟨ad, e, hc⟩ := hrd.2.2 h
      cases e
      obtain ⟨b, off, u⟩ := a
      have hu : u = none := by
        have h0 := hc 0 h
        cases u with
        | none => rfl
        | some x =>
          exfalso
          simp [Addr.add, World.cell?] at h0
          split at h0 <;> simp at h0
      subst hu
      refine (Tryd.slices_Clone_int b off l.length c l w (Nat.le_refl _) hbig (fun j hj => ?_)).mono ?_
      · have := hc j hj
        rcases Nat.eq_zero_or_pos j with rfl | hp
        · simpa [Addr.add] using this
        · simpa [Addr.add, Nat.ne_of_gt hp] using this
      · rintro e w' ⟨v, rfl, ho, _, hb⟩
        rw [List.take_length] at ho
        exact ⟨v, rfl, Kd.R_of_own (enc := Value.int .i64) ho (fun _ _ => trivial), hb⟩

/-- A row of one-cell elements: nil, or a block of the call's own. -/
theorem row_cases {w : World} {base : Nat} {ok : Nat → Prop} {v : Value} {xs : List Int} (h : Kd.R (Kd.int .i64) 3 w base ok v xs) :
    (v = .slice none 0 0 ∧ xs = []) ∨ ∃ g cap cur, v = .slice (some ⟨g, 0, none⟩) xs.length cap ∧ base ≤ g ∧ ok g ∧ w.heap[g]? = some (.cells cur 3 (0, 0)) ∧ xs.length ≤ cap ∧ cap ≤ maxLen ∧ cur.size = cap ∧ cur.toList.take xs.length = xs.map (Value.int .i64) := by
  have ho := Kd.own_of_R h
  rcases ho.2 with ⟨hv, hn⟩ | ⟨g, cap, cur, hv, hb, hg, h1, h2, h3, h4⟩
  · exact .inl ⟨hv, List.eq_nil_of_length_eq_zero hn⟩
  · refine .inr ⟨g, cap, cur, hv, hb, h.1 g (by rw [hv]; rfl), hg, h1, h2, by omega, ?_⟩
    rw [Nat.mul_one] at h4
    exact h4

theorem holds_int {w : World} {g : Nat} {cur : Array Value} {e : TypeId} {xs : List Int} (hb : w.heap[g]? = some (.cells cur e (0, 0))) (ht : cur.toList.take xs.length = xs.map (Value.int .i64)) : Holds (Value.int .i64) w g 0 xs.toArray := by
  intro j hj
  have hj' : j < xs.length := by simpa using hj
  refine ⟨?_, by simp [World.frozen?, hb]⟩
  have h1 : (cur.toList.take xs.length)[j]? = (xs.map (Value.int .i64))[j]? := by rw [ht]
  rw [List.getElem?_take_of_lt hj'] at h1
  simp only [World.cell?, hb, Nat.zero_add]
  simp [hj'] at h1 ⊢
  exact h1

theorem take_put (cur : Array Value) (ts : List Int) (h : ts.length ≤ cur.size) : (putCells (Value.int .i64) 0 ts.toArray cur).toList.take ts.length = ts.map (Value.int .i64) := by
  apply List.ext_getElem?
  intro j
  by_cases hj : j < ts.length
  · rw [List.getElem?_take_of_lt hj, Array.getElem?_toList]
    simp [putCells, hj, show j < cur.size by omega]
  · rw [List.getElem?_eq_none (by rw [List.length_take]; omega), List.getElem?_eq_none (by simp; omega)]

theorem heap_put {w : World} {g n : Nat} {os : Array Obj} {cur : Array Value} {e : TypeId} {fr : Nat × Nat} (d : Array Int) (hb : w.heap[g]? = some (.cells cur e fr)) :
    (grow (putRow (Value.int .i64) (Sort.ahead w n) g 0 d) os).heap[g]? = some (.cells (putCells (Value.int .i64) 0 d cur) e fr) := by
  have hg : g < w.heap.size := (Array.getElem?_eq_some_iff.1 hb).1
  rw [heap_grow_old _ _ (by simpa using hg)]
  simp [putRow, mapBlock, Sort.ahead, Array.getElem?_modify, hb, onCells]

theorem grown_put {w : World} {g n : Nat} {os : Array Obj} (d : Array Int) : w.grownBy (grow (putRow (Value.int .i64) (Sort.ahead w n) g 0 d) os) (some g) := by
  refine ⟨rfl, rfl, rfl, by simp, fun k hk hne => ?_⟩
  rw [heap_grow_old _ _ (by simpa using hk)]
  have : g ≠ k := fun e => hne (by rw [e])
  simp [putRow, mapBlock, Sort.ahead, Array.getElem?_modify, this]

def sorted (xs : List Int) : List Int := xs.mergeSort fun x y => decide (x ≤ y)

theorem sort_row {w : World} {base : Nat} {ok : Nat → Prop} {v : Value} {xs : List Int} (h : Kd.R (Kd.int .i64) 3 w base ok v xs) (hbig : xs.length < 4611686018427387904) :
    Calls Tryd.prog 47 #[v] w fun e w' => e = .returned (.tuple #[]) ∧ Kd.R (Kd.int .i64) 3 w' base ok v (sorted xs) ∧ w.grownBy w' v.ownBlock := by
  rcases row_cases h with ⟨rfl, rfl⟩ | ⟨g, cap, cur, rfl, hb, hok, hg, h1, h2, h3, h4⟩
  · refine (Tryd.slices_Sort_int_none none 0 w).mono ?_
    rintro e w' ⟨rfl, rfl⟩
    exact ⟨rfl, by simpa [sorted] using h, ⟨rfl, rfl, rfl, Nat.le_refl _, fun _ _ _ => rfl⟩⟩
  · refine (Tryd.slices_Sort_int g 0 cap xs w (holds_int hg h4) (Array.getElem?_eq_some_iff.1 hg).1 hbig).mono ?_
    rintro e w' ⟨rfl, n, os, rfl⟩
    have hl : (sorted xs).length = xs.length := by simp [sorted]
    refine ⟨rfl, ?_, grown_put _⟩
    refine Kd.R_of_own (enc := Value.int .i64) ⟨by simp [encs], .inr ⟨g, cap, _, by rw [hl], hb, heap_put _ hg, by rw [hl]; exact h1, h2, by simp [putCells, h3], ?_⟩⟩ (fun k hk => ?_)
    · rw [Nat.mul_one]
      exact take_put cur (sorted xs) (by omega)
    · have : g = k := by simpa [Value.ownBlock] using hk
      exact this ▸ hok

theorem compact_row {w : World} {base : Nat} {ok : Nat → Prop} {v : Value} {xs : List Int} (h : Kd.R (Kd.int .i64) 3 w base ok v xs) (hbig : xs.length ≤ 9223372036854775807) :
    Calls Tryd.prog 48 #[v] w fun e w' => ∃ v', e = .returned v' ∧ v'.ownBlock = v.ownBlock ∧ Kd.R (Kd.int .i64) 3 w' base ok v' (Lib.compact xs) ∧ w.grownBy w' v.ownBlock := by
  rcases row_cases h with ⟨rfl, rfl⟩ | ⟨g, cap, cur, rfl, hb, hok, hg, h1, h2, h3, h4⟩
  · refine (Tryd.slices_Compact_int_empty none 0 w).mono ?_
    rintro e w' ⟨rfl, rfl⟩
    exact ⟨_, rfl, rfl, by simpa [Lib.compact, compactUpTo] using h, ⟨rfl, rfl, rfl, Nat.le_refl _, fun _ _ _ => rfl⟩⟩
  · refine (Tryd.slices_Compact_int g 0 cap xs w (holds_int hg h4) hbig h1).mono ?_
    rintro e w' ⟨rfl, q, rfl⟩
    have hle := compact_length_le xs
    have hput := heap_put (n := q) (os := #[]) (Lib.compact xs ++ List.replicate (xs.length - (Lib.compact xs).length) 0).toArray hg
    rw [grow_empty] at hput
    have hgr := grown_put (w := w) (g := g) (n := q) (os := #[]) (Lib.compact xs ++ List.replicate (xs.length - (Lib.compact xs).length) 0).toArray
    rw [grow_empty] at hgr
    refine ⟨_, rfl, rfl, ?_, hgr⟩
    refine Kd.R_of_own (enc := Value.int .i64) ⟨by simp [encs], .inr ⟨g, cap, _, rfl, hb, hput, by omega, h2, by simp [putCells, h3], ?_⟩⟩ (fun k hk => ?_)
    · rw [Nat.mul_one]
      have ht := take_put cur (Lib.compact xs ++ List.replicate (xs.length - (Lib.compact xs).length) 0) (by simp; omega)
      have h5 := congrArg (List.take (Lib.compact xs).length) ht
      rw [List.take_take, Nat.min_eq_left (by simp)] at h5
      rw [h5, encs, List.map_append, List.take_left' (by simp)]
    · have : g = k := by simpa [Value.ownBlock] using hk
      exact this ▸ hok
end Go.Proofs.YtphblnibjiohjaaDoor.LibRow
