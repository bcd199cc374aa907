/- Parts of one proof, put together by a program of this session's (wip/merge.py). -/
import Derived.Test.YtilfalpfanaanaaMClones0
import Derived.Test.YtilfalpfanaanaaProg
set_option linter.unusedVariables false
set_option linter.unusedSimpArgs false
namespace Go.Proofs.Ytilfalpfanaanaa.Sx
open Go.RowKit
def aggDesc : TypeDesc → Bool | .struct _ => true | .array _ _ => true | _ => false
def szOf (P : Program) (t : TypeId) : Option (Bool × Nat) :=
  match P.info? t, P.underlying t with
  | some i, some d => some (aggDesc d, i.size)
  | _, _ => none
def zeroOf (P : Program) (t : TypeId) : Option (List Value) := match P.info? t with | some i => i.zero.map fun v => v.cells.toList | none => none
def fieldOf (P : Program) (s : TypeId) (f : Nat) : Option Nat :=
  match P.underlying s with
  | some (.struct fs) => match fs[f]? with
    | some fd => match P.info? fd.type with
      | some i => if i.size = 0 then none else some fd.offset
      | none => none
    | none => none
  | _ => none
def elemOf (P : Program) (t : TypeId) : Option (TypeId × Nat) :=
  match P.underlying t with
  | some (.slice e) => (P.info? e).map fun i => (e, i.size)
  | _ => none
def ptrOf (P : Program) (t : TypeId) : Bool := match P.underlying t with | some (.pointer _) => true | _ => false
theorem run_isAgg {P : Program} {t : TypeId} {b : Bool} {k : Nat} (h : szOf P t = some (b, k)) (w : World) : (isAgg t).run P w = .ok b w := by
  unfold szOf at h
  split at h
  · rename_i i d h1 h2
    injection h with h
    injection h with ha hb
    subst ha
    unfold isAgg
    simp only [Sem.run_bind, run_underlying h2, Result.andThen_ok]
    cases d <;> rfl
  · cases h
theorem run_sizeOf_ {P : Program} {t : TypeId} {b : Bool} {k : Nat} (h : szOf P t = some (b, k)) (w : World) : (sizeOf t).run P w = .ok k w := by
  unfold szOf at h
  split at h
  · rename_i i d h1 h2
    injection h with h
    injection h with ha hb
    subst hb
    simp [sizeOf, typeInfo, h1]
  · cases h
section
variable {P : Program} {n : Nat} {L : List (Nat × Value)} {w : World} {dst : Option Tmp} {ty : TypeId} {pos : String} {af : Array Edge} {gd : Option (Nat × Bool)} {x y z : Operand} {v u : Value} {t : TypeId} {b j i : Nat}
theorem r_move (hx : ev n L x = v) : (execOp (ev n L) ⟨dst, .move x, ty, pos, af, gd⟩).run P w = .ok (.value v) w := by rw [← hx]; rfl
theorem r_assign (hx : ev n L x = v) : (execOp (ev n L) ⟨dst, .assign x, ty, pos, af, gd⟩).run P w = .ok (.value v) w := by rw [← hx]; rfl
theorem r_extract {k : Nat} {vs : List Value} (hx : ev n L x = .tuple vs.toArray) (hi : vs[k]? = some v) : (execOp (ev n L) ⟨dst, .extract x k, ty, pos, af, gd⟩).run P w = .ok (.value v) w := by
  simp [execOp, hx, Instr.extract, hi]
theorem r_not {a c : Bool} (hx : ev n L x = .bool a) (hc : (!a) = c) : (execOp (ev n L) ⟨dst, .unOp .not t x, ty, pos, af, gd⟩).run P w = .ok (.value (.bool c)) w := by
  subst hc; simp [execOp, hx, Op.unary]
theorem r_pick_t {c a d : Operand} (hc : ev n L c = .bool true) (ha : ev n L a = v) : (execOp (ev n L) ⟨dst, .pick c a d, ty, pos, af, gd⟩).run P w = .ok (.value v) w := by
  simp [execOp, hc, ha, asBool]
theorem r_pick_f {c a d : Operand} (hc : ev n L c = .bool false) (ha : ev n L d = v) : (execOp (ev n L) ⟨dst, .pick c a d, ty, pos, af, gd⟩).run P w = .ok (.value v) w := by
  simp [execOp, hc, ha, asBool]
section
variable {k : IntKind} {p q : Int} {r : Bool} {yt : TypeId}
theorem r_eql (hx : ev n L x = .int k p) (hy : ev n L y = .int k q) (h : (p == q) = r) : (execOp (ev n L) ⟨dst, .binOp .eql t x y yt, ty, pos, af, gd⟩).run P w = .ok (.value (.bool r)) w := by
  subst h; simp [execOp, hx, hy, go_sem]
theorem r_neq (hx : ev n L x = .int k p) (hy : ev n L y = .int k q) (h : (p != q) = r) : (execOp (ev n L) ⟨dst, .binOp .neq t x y yt, ty, pos, af, gd⟩).run P w = .ok (.value (.bool r)) w := by
  subst h; simp [execOp, hx, hy, go_sem]
theorem r_lss (hx : ev n L x = .int k p) (hy : ev n L y = .int k q) (h : decide (p < q) = r) : (execOp (ev n L) ⟨dst, .binOp .lss t x y yt, ty, pos, af, gd⟩).run P w = .ok (.value (.bool r)) w := by
  subst h; simp [execOp, hx, hy, go_sem]
theorem r_gtr (hx : ev n L x = .int k p) (hy : ev n L y = .int k q) (h : decide (q < p) = r) : (execOp (ev n L) ⟨dst, .binOp .gtr t x y yt, ty, pos, af, gd⟩).run P w = .ok (.value (.bool r)) w := by
  subst h; simp [execOp, hx, hy, go_sem]
theorem r_geq (hx : ev n L x = .int k p) (hy : ev n L y = .int k q) (h : decide (q ≤ p) = r) : (execOp (ev n L) ⟨dst, .binOp .geq t x y yt, ty, pos, af, gd⟩).run P w = .ok (.value (.bool r)) w := by
  subst h; simp [execOp, hx, hy, go_sem]
theorem r_add {c : Int} (hx : ev n L x = .int k p) (hy : ev n L y = .int k q) (h : k.wrap (p + q) = c) : (execOp (ev n L) ⟨dst, .binOp .add t x y yt, ty, pos, af, gd⟩).run P w = .ok (.value (.int k c)) w := by
  subst h; simp [execOp, hx, hy, binOp, eqGuard, Op.intArith]
theorem r_sub {c : Int} (hx : ev n L x = .int k p) (hy : ev n L y = .int k q) (h : k.wrap (p - q) = c) : (execOp (ev n L) ⟨dst, .binOp .sub t x y yt, ty, pos, af, gd⟩).run P w = .ok (.value (.int k c)) w := by
  subst h; simp [execOp, hx, hy, binOp, eqGuard, Op.intArith]
theorem r_and {c : Int} (hx : ev n L x = .int k p) (hy : ev n L y = .int k q) (h : bits .and k p q = c) : (execOp (ev n L) ⟨dst, .binOp .and t x y yt, ty, pos, af, gd⟩).run P w = .ok (.value (.int k c)) w := by
  subst h; simp [execOp, hx, hy, go_sem]
theorem r_bin {op : BinOp} (hx : ev n L x = u) (hy : ev n L y = v) {r : Value} (h : (do eqGuard op t x y u v; binOp op t u v : Sem Value).run P w = .ok r w) : (execOp (ev n L) ⟨dst, .binOp op t x y yt, ty, pos, af, gd⟩).run P w = .ok (.value r) w := by
  have : (execOp (ev n L) ⟨dst, .binOp op t x y yt, ty, pos, af, gd⟩).run P w = ((do eqGuard op t x y u v; binOp op t u v : Sem Value).run P w).andThen fun r w' => .ok (.value r) w' := by
    simp only [execOp, hx, hy]
    rw [Sem.run_bind]
    rfl
  rw [this, h]; rfl
theorem r_beql {a c : Bool} (hu : P.underlying t = some .bool) (hx : ev n L x = .bool a) (hy : ev n L y = .bool c) (h : (a == c) = r) : (execOp (ev n L) ⟨dst, .binOp .eql t x y yt, ty, pos, af, gd⟩).run P w = .ok (.value (.bool r)) w := by
  subst h; simp [execOp, hx, hy, eqGuard, run_eql_bool _ _ _ _ hu]
end
theorem run_ptr_nil {t : TypeId} (h : ptrOf P t = true) (p : Option Addr) (w : World) : (binOp .eql t (.pointer p) (.pointer none)).run P w = .ok (.bool p.isNone) w ∧ (binOp .neq t (.pointer p) (.pointer none)).run P w = .ok (.bool (!p.isNone)) w := by
  have hp : P.underlying t = some (.pointer (P.pointee t)) := by
    unfold ptrOf at h
    unfold Program.pointee
    split at h
    · rename_i e he; rw [he]
    · cases h
  exact ⟨by rw [run_eql_pointer_nil _ _ _ hp], by rw [run_neq_pointer_nil _ _ _ hp]⟩
theorem r_peql {p : Option Addr} {r : Bool} {yt : TypeId} (hu : ptrOf P t = true) (hx : ev n L x = .pointer p) (hy : ev n L y = .pointer none) (h : p.isNone = r) : (execOp (ev n L) ⟨dst, .binOp .eql t x y yt, ty, pos, af, gd⟩).run P w = .ok (.value (.bool r)) w := by
  subst h; exact r_bin hx hy (by simp only [eqGuard]; simpa using (run_ptr_nil hu p w).1)
theorem r_pneq {p : Option Addr} {r : Bool} {yt : TypeId} (hu : ptrOf P t = true) (hx : ev n L x = .pointer p) (hy : ev n L y = .pointer none) (h : (!p.isNone) = r) : (execOp (ev n L) ⟨dst, .binOp .neq t x y yt, ty, pos, af, gd⟩).run P w = .ok (.value (.bool r)) w := by
  subst h; exact r_bin hx hy (by simp only [eqGuard]; simpa using (run_ptr_nil hu p w).2)
theorem r_nilCheck {a : Addr} (hx : ev n L x = .pointer (some a)) : (execOp (ev n L) ⟨dst, .nilCheck x, ty, pos, af, gd⟩).run P w = .ok (.value (.pointer (some a))) w := by
  simp [execOp, hx]
theorem r_len_slice {A : Option Addr} {m c : Nat} {e s : Nat} (hu : elemOf P t = some (e, s)) (hx : ev n L x = .slice A m c) : (execOp (ev n L) ⟨dst, .call ⟨.builtin .len, #[x], #[t]⟩, ty, pos, af, gd⟩).run P w = .ok (.value (.int .i64 m)) w := by
  unfold elemOf at hu
  split at hu
  · rename_i e' he
    simp [execOp, resolve, invoke, builtin, hx, Builtin.len_, run_underlying he, goInt]
  · cases hu
theorem run_fieldAt {s : TypeId} {f off : Nat} (h : fieldOf P s f = some off) (b i : Nat) (w : World) : (Instr.fieldAt s (.pointer (some ⟨b, i, none⟩)) f).run P w = .ok (.pointer (some ⟨b, i + off, none⟩)) w := by
  unfold fieldOf at h
  split at h
  · rename_i fs hfs
    split at h
    · rename_i fd hfd
      split at h
      · rename_i inf hinf
        split at h
        · cases h
        · rename_i hz
          injection h with h
          subst h
          simp only [Instr.fieldAt, Sem.run_bind, run_underlying hfs, Result.andThen_ok, hfd]
          simp only [fieldPlace, sizeOf, typeInfo, Instr.sureAddr, Sem.run_bind, Sem.run_pure, run_program, Result.andThen_ok, hinf, Sem.run_ite, if_neg hz]
          unfold Addr.add
          split
          · rename_i h0; simp [h0]
          · rfl
      · cases h
    · cases h
  · cases h
theorem r_field {s : TypeId} {f off : Nat} (hf : fieldOf P s f = some off) (hx : ev n L x = .pointer (some ⟨b, i, none⟩)) (hj : i + off = j) : (execOp (ev n L) ⟨dst, .fieldAddr s x f, ty, pos, af, gd⟩).run P w = .ok (.value (.pointer (some ⟨b, j, none⟩))) w := by
  subst hj; simp [execOp, hx, run_fieldAt hf]
theorem r_index {t : TypeId} {e s m c : Nat} {k : IntKind} {q : Int} (hu : elemOf P t = some (e, s)) (hx : ev n L x = .slice (some ⟨b, i, none⟩) m c) (hy : ev n L y = .int k q) (h0 : 0 ≤ q) (h1 : q < m) (hj : i + q.toNat * s = j) :
    (execOp (ev n L) ⟨dst, .indexAddr t x y, ty, pos, af, gd⟩).run P w = .ok (.value (.pointer (some ⟨b, j, none⟩))) w := by
  unfold elemOf at hu
  split at hu
  · rename_i e' he
    cases hinf : P.info? e' with
    | none => rw [hinf] at hu; cases hu
    | some inf =>
      rw [hinf] at hu
      injection hu with hu
      injection hu with h2 h3
      subst h3 hj
      simp only [execOp, hx, hy, Instr.indexAt, asIntOf, Sem.run_bind, run_underlying he, Result.andThen_ok, Sem.run_pure, Sem.run_ite, if_pos (⟨h0, h1⟩ : 0 ≤ q ∧ q < (m : Int)), sizeOf, typeInfo, run_program, hinf]
      unfold Addr.add
      split
      · rename_i hz; simp [hz]
      · rfl
  · cases hu
theorem r_slice_h {t : TypeId} {e s m c : Nat} {k : IntKind} {q : Int} {A : Option Addr} (hu : elemOf P t = some (e, s)) (hx : ev n L x = .slice A m c) (hy : ev n L y = .int k q) (h0 : 0 ≤ q) (h1 : q ≤ c) :
    (execOp (ev n L) ⟨dst, .slice t x none (some y) none, ty, pos, af, gd⟩).run P w = .ok (.value (.slice A q.toNat c)) w := by
  unfold elemOf at hu
  split at hu
  · rename_i e' he
    have hel : P.underlying t = some (.slice (P.elem t)) := by unfold Program.elem; rw [he]
    cases hinf : P.info? e' with
    | none => rw [hinf] at hu; cases hu
    | some inf =>
      have hs : (sizeOf (P.elem t)).run P w = .ok inf.size w := by
        unfold Program.elem; rw [he]; simp [sizeOf, typeInfo, hinf]
      have hrun : (Instr.sliceAt t (.slice A m c) none (some (.int k q)) none).run P w = .ok (.slice A q.toNat c) w := by
        rw [run_sliceAt_slice (h := hel), run_slice_h (ht := hel) (h0 := h0) (h2 := h1), hs]
        cases A <;> simp [sliced, Addr.add]
      simp [execOp, hx, hy, hrun]
  · cases hu
theorem r_load1 {t : TypeId} (ht : szOf P t = some (false, 1)) (hx : ev n L x = .pointer (some ⟨b, j, none⟩)) (hc : w.cell? ⟨b, j, none⟩ = some v) : (execOp (ev n L) ⟨dst, .load t x, ty, pos, af, gd⟩).run P w = .ok (.value v) w := by
  simp [execOp, hx, Instr.loadAt, Instr.sureAddr, loadVar, run_isAgg ht, hc]
theorem run_loadCells (w : World) (b j : Nat) : ∀ (vs : List Value) (i : Nat) (acc : Array Value), (∀ m (hm : m < vs.length), w.cell? ⟨b, j + (i + m), none⟩ = some vs[m]) →
    (loadCellsFrom ⟨b, j, none⟩ i vs.length acc).run P w = .ok (acc ++ vs.toArray) w
  | [], i, acc, _ => by simp [loadCellsFrom]
  | v :: vs, i, acc, h => by
    have h0 := h 0 (by simp)
    have ha : (Addr.add ⟨b, j, none⟩ i) = ⟨b, j + i, none⟩ := by
      unfold Addr.add
      split
      · rename_i e; simp [e]
      · rfl
    simp only [List.length_cons, loadCellsFrom, Sem.run_bind, run_load, ha]
    rw [show w.cell? ⟨b, j + i, none⟩ = some v from h0]
    simp only [Result.andThen_ok]
    rw [run_loadCells w b j vs (i + 1) (acc.push v) (fun m hm => by
      have := h (m + 1) (by simpa using hm)
      rw [show j + (i + 1 + m) = j + (i + (m + 1)) by omega]
      simpa using this)]
    simp
theorem cells_of {T : TypeId} {cs vs : List Value} (hb : w.heap[b]? = some (.cells cs.toArray T (0, 0))) (hv : (cs.drop j).take vs.length = vs) : ∀ m (hm : m < vs.length), w.cell? ⟨b, j + (0 + m), none⟩ = some vs[m] := by
  intro m hm
  apply cell_at hb
  have : ((cs.drop j).take vs.length)[m]? = vs[m]? := by rw [hv]
  rw [List.getElem?_take_of_lt hm, List.getElem?_drop] at this
  rw [Nat.zero_add, this, List.getElem?_eq_getElem hm]
theorem r_loadN {t T : TypeId} {cs vs : List Value} {k : Nat} (ht : szOf P t = some (true, k)) (hx : ev n L x = .pointer (some ⟨b, j, none⟩)) (hb : w.heap[b]? = some (.cells cs.toArray T (0, 0))) (hk : vs.length = k) (hv : (cs.drop j).take vs.length = vs) :
    (execOp (ev n L) ⟨dst, .load t x, ty, pos, af, gd⟩).run P w = .ok (.value (.agg vs.toArray)) w := by
  subst hk
  simp [execOp, hx, Instr.loadAt, Instr.sureAddr, loadVar, run_isAgg ht, run_sizeOf_ ht, loadCells, run_loadCells w b j vs 0 #[] (cells_of hb hv)]
theorem r_build {t : TypeId} {l : List (Nat × Operand)} {ps : List (Nat × Value)} (hp : (l.map fun p => (p.1, ev n L p.2)) = ps) (hb : (Instr.build t ps.toArray).run P w = .ok v w) : (execOp (ev n L) ⟨dst, .build t l.toArray, ty, pos, af, gd⟩).run P w = .ok (.value v) w := by
  subst hp
  simp only [execOp, List.map_toArray] at *
  simp [hb]
end
end Go.Proofs.Ytilfalpfanaanaa.Sx

namespace Go.Proofs.Ytilfalpfanaanaa.Sx
open Go.RowKit
section
variable {P : Program} {l rest : List Oper} {Q : Exit → Act → World → Prop} {n : Nat} {L : List (Nat × Value)} {w w0 : World} {o : Oper} {X : Nat → Prop} {σ σ' : List Blk}
theorem wan {ops : Array Oper} {j d : Nat} {b : Bool} (hg : o.guard = some (j, b)) (hj : (ops[j]?).bind (·.dst) = some d) (hd : Nat.blt d n = true) (hl : look L d = .bool b) : Region.wanted o (yielded ops (fr n L).tmps) = true := by
  have hd' := lt_of_blt hd
  have : (fr n L).tmps[d]? = some (.bool b) := by simp [fr, hd', hl]
  unfold Region.wanted yielded
  rw [hg]
  simp only [hj, Option.bind_some, this]
  simp
theorem wn {o : Oper} {y : Nat → Option Bool} (hg : o.guard = none) : Region.wanted o y = true := by unfold Region.wanted; rw [hg]
theorem unwan {ops : Array Oper} {j d : Nat} {b c : Bool} (hg : o.guard = some (j, b)) (hj : (ops[j]?).bind (·.dst) = some d) (hd : Nat.blt d n = true) (hl : look L d = .bool c) (hc : (c == b) = false) : Region.wanted o (yielded ops (fr n L).tmps) = false := by
  have hd' := lt_of_blt hd
  have : (fr n L).tmps[d]? = some (.bool c) := by simp [fr, hd', hl]
  unfold Region.wanted yielded
  rw [hg]
  simp only [hj, Option.bind_some, this]
  simpa using hc
structure WL (P : Program) (l : List Oper) (Q : Exit → Act → World → Prop) (rest : List Oper) (n : Nat) (L : List (Nat × Value)) (w : World) : Prop where mk :: (out : wpList P l.toArray Q rest (fr n L) w)
structure CW (P : Program) (c : Code) (Q : Exit → Act → World → Prop) (n : Nat) (L : List (Nat × Value)) (w : World) : Prop where mk :: (out : c.wp P Q (fr n L) w)
structure XW (Q : Exit → Act → World → Prop) (e : Exit) (n : Nat) (L : List (Nat × Value)) (w : World) : Prop where mk :: (out : Q e (fr n L) w)
structure OW (P : Program) (o : Oper) (n : Nat) (L : List (Nat × Value)) (w : World) (K : List (Nat × Value) → World → Prop) (Q : Exit → Act → World → Prop) : Prop where mk :: (out : Oper.wp P o (fr n L) w (fun a w' => ∃ L', a = fr n L' ∧ K L' w') Q)
theorem q_of (hw : Region.wanted o (yielded l.toArray (fr n L).tmps) = true) (h : OW P o n L w (fun L' w' => WL P l Q rest n L' w') Q) : WL P l Q (o :: rest) n L w := ⟨by
  unfold wpList
  rw [if_pos hw]
  refine .inl (Oper.wp_mono (fun a w hh => ?_) h.out)
  obtain ⟨L', rfl, hh⟩ := hh
  exact hh.out⟩
theorem q_skip {d : Tmp} (hw : Region.wanted o (yielded l.toArray (fr n L).tmps) = false) (hd : o.dst = some d) (h : WL P l Q rest n ((d, undef) :: L) w) : WL P l Q (o :: rest) n L w := ⟨by
  unfold wpList
  rw [if_neg (by rw [hw]; simp), fr_put, hd]
  exact h.out⟩
theorem e_val {K : List (Nat × Value) → World → Prop} {v : Value} {w' : World} {d : Tmp} (hd : o.dst = some d) (hr : (execOp (ev n L) o).run P w = .ok (.value v) w') (h : K ((d, v) :: L) w') : OW P o n L w K Q := ⟨by
  unfold Oper.wp
  rw [fr_ev, hr, Oper.upon_value, fr_put, hd]
  exact ⟨_, rfl, h⟩⟩
theorem q_val {v : Value} {w' : World} {d : Tmp} (hw : Region.wanted o (yielded l.toArray (fr n L).tmps) = true) (hd : o.dst = some d) (hr : (execOp (ev n L) o).run P w = .ok (.value v) w') (h : WL P l Q rest n ((d, v) :: L) w') : WL P l Q (o :: rest) n L w :=
  q_of hw (e_val hd hr h)
theorem q_nil (h : XW Q .normal n L w) : WL P l Q [] n L w := ⟨h.out⟩
section
variable {d : Tmp} {ty t T : TypeId} {pos : String} {af : Array Edge} {gd : Option (Nat × Bool)} {x y : Operand} {v : Value} {b j i k : Nat} {own : Bool} {cs vs : List Value} {K : List (Nat × Value) → World → Prop}
theorem run_store_cells {w : World} {b : Nat} : ∀ (vs : List Value) (j i : Nat) (w : World) (cs : List Value), w.heap[b]? = some (.cells cs.toArray T (0, 0)) → j + i + vs.length ≤ cs.length → vs.all (·.oneCell') = true →
    (storeCells ⟨b, j, none⟩ vs i).run P w = .ok () (putAll w b (j + i) vs)
  | [], j, i, w, cs, _, _, _ => by simp [storeCells, putAll]
  | v :: vs, j, i, w, cs, h, hl, h1 => by
    have ha : (Addr.add ⟨b, j, none⟩ i) = ⟨b, j + i, none⟩ := by
      unfold Addr.add
      split
      · rename_i e; simp [e]
      · rfl
    simp only [List.all_cons, Bool.and_eq_true] at h1
    have hj : j + i < cs.length := by simp at hl; omega
    have hc : w.cell? ⟨b, j + i, none⟩ = some cs[j + i] := cell_at h (List.getElem?_eq_getElem hj)
    have hf : w.frozen? ⟨b, j + i, none⟩ = false := by simp [World.frozen?, h]
    simp only [storeCells, Sem.run_bind, ha, run_store P w _ v _ h1.1]
    rw [hc, hf]
    simp only [Result.andThen_ok, Bool.false_eq_true, if_false]
    have h2 : (w.setCell ⟨b, j + i, none⟩ v).heap[b]? = some (.cells (cs.set (j + i) v).toArray T (0, 0)) := by
      simp [World.setCell, Array.getElem?_modify, h]
    rw [run_store_cells (w := w) vs j (i + 1) _ _ h2 (by simp at hl ⊢; omega) h1.2]
    rfl
theorem e_store {cs' : List Value} {agg : Bool} (hS : St w0 X w σ) (hx : ev n L x = .pointer (some ⟨b, j, none⟩)) (hy : ev n L y = v) (hv : v.cells = vs.toArray) (h1 : vs.all (·.oneCell') = true) (ht : szOf P t = some (agg, vs.length))
    (i : Nat) (hi : σ[i]? = some ⟨b, own, .cells cs.toArray T (0, 0)⟩) (ho : own = true ∨ X b) (hl : Nat.ble (j + vs.length) cs.length = true) (hc : cs.take j ++ vs ++ cs.drop (j + vs.length) = cs') (hσ : σ.set i ⟨b, own, .cells cs'.toArray T (0, 0)⟩ = σ')
    (h : ∀ w', St w0 X w' σ' → Ext (fun m => m = b) w w' → K L w') : OW P ⟨none, .store t x y, ty, pos, af, gd⟩ n L w K Q := by
  subst hσ hc
  have hl' := Nat.le_of_ble_eq_true hl
  have hb := hS.blk i hi
  obtain ⟨a1, a2, a3, a4, a5, a6⟩ := putAll_spec vs w b j cs T hb hl'
  have hr : (execOp (ev n L) ⟨none, .store t x y, ty, pos, af, gd⟩).run P w = .ok .skip (putAll w b j vs) := by
    have := run_store_cells (P := P) (w := w) vs j 0 w cs hb (by simpa using hl') h1
    simp [execOp, hx, hy, Instr.storeAt, Instr.sureAddr, storeVar, hv, run_sizeOf_ ht, this]
  refine ⟨?_⟩
  unfold Oper.wp
  rw [fr_ev, hr, Oper.upon_skip, fr_put]
  exact ⟨_, rfl, h _ (hS.set i hi ho _ a1 a2 a3 a4 a5 a6) ⟨a1, a2, a3, by rw [a4]; exact Nat.le_refl _, fun m hm hne => a6 m hne⟩⟩
theorem e_storeAt {cs' : List Value} (hS : St w0 X w σ) (hx : ev n L x = .pointer (some ⟨b, j, none⟩)) (hy : ev n L y = v) (hv : v.cells = #[v]) (h1 : v.oneCell' = true) (ht : szOf P t = some (false, 1))
    (i : Nat) (hi : σ[i]? = some ⟨b, own, .cells cs.toArray T (0, 0)⟩) (ho : own = true ∨ X b) (hl : j < cs.length) (hc : cs.set j v = cs') (hσ : σ.set i ⟨b, own, .cells cs'.toArray T (0, 0)⟩ = σ')
    (h : ∀ w', St w0 X w' σ' → Ext (fun m => m = b) w w' → K L w') : OW P ⟨none, .store t x y, ty, pos, af, gd⟩ n L w K Q := by
  refine e_store (vs := [v]) (cs' := cs') hS hx hy hv (by simpa using h1) ht i hi ho (Nat.ble_eq_true_of_le (show j + 1 ≤ cs.length from hl)) ?_ hσ h
  rw [← hc, List.set_eq_take_append_cons_drop, if_pos hl]
  simp
theorem run_newVar (w : World) (v : Value) (t : TypeId) : (newVar t v).run P w = .ok ⟨w.heap.size, 0, none⟩ (w.alloc (.cells v.cells t)) := by
  simp [newVar, newRow]
theorem e_alloc (hS : St w0 X w σ) (hz : zeroOf P t = some cs) (h : ∀ g w', w.heap.size = g → St w0 X w' (⟨g, true, .cells cs.toArray t (0, 0)⟩ :: σ) → Below w.heap.size w w' → K ((d, .pointer (some ⟨g, 0, none⟩)) :: L) w') :
    OW P ⟨some d, .alloc t, ty, pos, af, gd⟩ n L w K Q := by
  unfold zeroOf at hz
  split at hz
  · rename_i i hi
    cases hz' : i.zero with
    | none => rw [hz'] at hz; cases hz
    | some z =>
      rw [hz'] at hz
      have hz : z.cells.toList = cs := by simpa using hz
      have hz : z.cells = cs.toArray := by rw [← hz]
      have hr : (execOp (ev n L) ⟨some d, .alloc t, ty, pos, af, gd⟩).run P w = .ok (.value (.pointer (some ⟨w.heap.size, 0, none⟩))) (w.alloc (.cells cs.toArray t)) := by
        simp [execOp, Instr.alloc, zeroValue, typeInfo, hi, hz', run_newVar, hz]
      exact e_val rfl hr (h _ _ rfl (hS.new _) ((Below.refl _ _).alloc (Nat.le_refl _) _))
  · cases hz
theorem e_box (hS : St w0 X w σ) (hx : ev n L x = v) (hv : v.cells = cs.toArray) (h : ∀ g w', w.heap.size = g → St w0 X w' (⟨g, true, .cells cs.toArray t (0, 0)⟩ :: σ) → Below w.heap.size w w' → K ((d, .pointer (some ⟨g, 0, none⟩)) :: L) w') :
    OW P ⟨some d, .box t x, ty, pos, af, gd⟩ n L w K Q := by
  have hr : (execOp (ev n L) ⟨some d, .box t x, ty, pos, af, gd⟩).run P w = .ok (.value (.pointer (some ⟨w.heap.size, 0, none⟩))) (w.alloc (.cells cs.toArray t)) := by
    simp [execOp, Instr.box, hx, run_newVar, hv]
  exact e_val rfl hr (h _ _ rfl (hS.new _) ((Below.refl _ _).alloc (Nat.le_refl _) _))
theorem e_new {ob : Obj} {o : Oper} {vf : Nat → Value} (hd : o.dst = some d) (hS : St w0 X w σ) (hr : (execOp (ev n L) o).run P w = .ok (.value (vf w.heap.size)) (w.alloc ob)) (h : ∀ g w', w.heap.size = g → St w0 X w' (⟨g, true, ob⟩ :: σ) → Below w.heap.size w w' → K ((d, vf g) :: L) w') : OW P o n L w K Q :=
  e_val hd hr (h _ _ rfl (hS.new _) ((Below.refl _ _).alloc (Nat.le_refl _) _))
theorem r_makeSlice {t : TypeId} {xl xc : Operand} {u u' v : Value} {w' : World} {dst : Option Tmp} (hl : ev n L xl = u) (hc : ev n L xc = u') (hr : (Instr.makeSlice t u u').run P w = .ok v w') : (execOp (ev n L) ⟨dst, .makeSlice t xl xc, ty, pos, af, gd⟩).run P w = .ok (.value v) w' := by
  simp [execOp, hl, hc, hr]
theorem r_buildSlice {t : TypeId} {m : Nat} {l : List (Nat × Operand)} {ps : List (Nat × Value)} {v : Value} {w' : World} {dst : Option Tmp} (hp : (l.map fun p => (p.1, ev n L p.2)) = ps) (hr : (Instr.buildSlice t m ps.toArray).run P w = .ok v w') : (execOp (ev n L) ⟨dst, .buildSlice t m l.toArray, ty, pos, af, gd⟩).run P w = .ok (.value v) w' := by
  subst hp
  simp only [execOp, List.map_toArray] at *
  simp [hr]
theorem r_append {t : TypeId} {u u' v : Value} {w' : World} {dst : Option Tmp} (hx : ev n L x = u) (hy : ev n L y = u') (hr : (Builtin.append_ #[t, t] ty #[u, u']).run P w = .ok v w') : (execOp (ev n L) ⟨dst, .call ⟨.builtin .append, #[x, y], #[t, t]⟩, ty, pos, af, gd⟩).run P w = .ok (.value v) w' := by
  simp [execOp, resolve, invoke, builtin, hx, hy, hr]
theorem e_call {f : FuncId} {fn : Func} {as_ : List Operand} {ts : Array TypeId} {args : List Value} (hf : P.funcs[f]? = some fn) (hname : (fn.name == "runtime.NumGoroutine") = false) (hb : fn.body.isSome = true) (ha : as_.map (ev n L) = args)
    (h : Calls P f args.toArray w fun e w' => ∃ v, e = .returned v ∧ K ((d, v) :: L) w') : OW P ⟨some d, .call ⟨.value (.func f), as_.toArray, ts⟩, ty, pos, af, gd⟩ n L w K Q := by
  have h1 : fn.name ≠ "runtime.NumGoroutine" := by simpa using hname
  obtain ⟨c, hc⟩ := Option.isSome_iff_exists.1 hb
  have hr : (execOp (ev n L) ⟨some d, .call ⟨.value (.func f), as_.toArray, ts⟩, ty, pos, af, gd⟩).run P w = .ok (.enter f args.toArray) w := by
    subst ha
    simp [execOp, resolve, ev, Deferred.ofValue, invoke, callFunc, hf, h1, hc]
  refine ⟨?_⟩
  unfold Oper.wp
  rw [fr_ev, hr, Oper.upon_enter]
  refine h.mono fun e w' hh => ?_
  obtain ⟨v, rfl, hk⟩ := hh
  exact ⟨_, fr_put n L (some d) v, hk⟩
end
variable {c c' : Code} {x : Operand} {e : Exit}
theorem s_seq (h : CW P c (Exit.then (c'.wp P Q) Q) n L w) : CW P (.seq c c') Q n L w := ⟨wp_seq h.out⟩
theorem s_region {id : Nat} (h : WL P l Q l n L w) : CW P (.region id l.toArray false) Q n L w := ⟨wp_region_lit h.out⟩
theorem s_true (hc : ev n L x = .bool true) (h : CW P c Q n L w) : CW P (.cond x c c') Q n L w := ⟨wp_cond_true (by rw [fr_ev, hc]) h.out⟩
theorem s_false (hc : ev n L x = .bool false) (h : CW P c' Q n L w) : CW P (.cond x c c') Q n L w := ⟨wp_cond_false (by rw [fr_ev, hc]) h.out⟩
theorem s_block {id : Nat} (h : CW P c (Exit.inBlock id Q) n L w) : CW P (.block id c) Q n L w := ⟨wp_block h.out⟩
theorem s_skip (h : XW Q .normal n L w) : CW P .skip Q n L w := ⟨wp_skip h.out⟩
theorem s_ret (h : XW Q .ret n L w) : CW P .ret Q n L w := ⟨wp_ret h.out⟩
theorem s_exit {id : Nat} (h : XW Q (.exit id) n L w) : CW P (.exit id) Q n L w := ⟨wp_exit h.out⟩
theorem x_seq (h : CW P c Q n L w) : XW (Exit.then (c.wp P Q) Q) .normal n L w := ⟨h.out⟩
theorem x_seq_ret {N : Act → World → Prop} (h : XW Q .ret n L w) : XW (Exit.then N Q) .ret n L w := ⟨h.out⟩
theorem x_seq_exit {N : Act → World → Prop} {id : Nat} (h : XW Q (.exit id) n L w) : XW (Exit.then N Q) (.exit id) n L w := ⟨h.out⟩
theorem x_blk {id : Nat} (h : XW Q .normal n L w) : XW (Exit.inBlock id Q) .normal n L w := ⟨h.out⟩
theorem x_blk_ret {id : Nat} (h : XW Q .ret n L w) : XW (Exit.inBlock id Q) .ret n L w := ⟨h.out⟩
theorem x_blk_exit {id : Nat} (h : XW Q .normal n L w) : XW (Exit.inBlock id Q) (.exit id) n L w := ⟨by simp [Exit.inBlock, h.out]⟩
theorem s_enter {f : FuncId} {fn : Func} {args : List Value} {R : Ending → World → Prop} (hf : P.funcs[f]? = some fn) (hb : fn.body = some c) (hn : fn.ntmps = n) (ha : Nat.ble args.length n = true) (hp : params 0 args = L)
    (h : CW P c (bodyPost P fn R) n L w) : Calls P f args.toArray w R := by
  subst hp hn
  refine calls_of_wp hf hb ?_
  rw [fr_enter _ _ (Nat.le_of_ble_eq_true ha)]
  exact h.out
theorem s_front (M : List (Nat × Value)) (hM : agree L M) (h : CW P c Q n (M ++ L) w) : CW P c Q n L w := ⟨by rw [fr_front M hM]; exact h.out⟩
theorem s_loop (I : Nat → List (Nat × Value) → World → Prop) (m : Nat) (h0 : I m L w) (round : ∀ m L w, I m L w → CW P c (Exit.then (fun a' w' => ∃ m' L', m' < m ∧ a' = fr n L' ∧ I m' L' w') Q) n L w) : CW P (.loop c) Q n L w :=
  ⟨wp_loop_ghost (fun m a w => ∃ L, a = fr n L ∧ I m L w) m ⟨L, rfl, h0⟩ (fun m a w hI => by
    obtain ⟨L, rfl, hI⟩ := hI
    refine wp_mono (round m L w hI).out fun e a w hq => ?_
    cases e with
    | normal =>
      obtain ⟨m', L', h1, h2, h3⟩ := hq
      exact ⟨m', h1, L', h2, h3⟩
    | _ => exact hq)⟩
theorem x_loop {I : Nat → List (Nat × Value) → World → Prop} {m : Nat} (m' : Nat) (M : List (Nat × Value)) (hM : agree L M) (hm : m' < m) (h : I m' (M ++ L) w) : XW (Exit.then (fun a' w' => ∃ m' L', m' < m ∧ a' = fr n L' ∧ I m' L' w') Q) .normal n L w :=
  ⟨⟨m', M ++ L, hm, fr_front M hM, h⟩⟩
variable {fn : Func} {R : Ending → World → Prop} {t u s : Tmp} {v v' v'' : Value} {b : Nat} {cs : List Value} {T ty : TypeId} {fz : Nat × Nat}
theorem fr_get (t : Tmp) : (fr n L).tmps.getD t undef = ev n L (.tmp t) := congrFun (fr_ev n L) (.tmp t)
theorem t_ret1 (hr : fn.results = #[.tmp t]) (hv : ev n L (.tmp t) = v) (h : R (.returned v) w) : XW (bodyPost P fn R) .ret n L w :=
  ⟨⟨rfl, v, by rw [results_tmp hr, fr_get, hv], h⟩⟩
theorem t_ret2 (hr : fn.results = #[.tmp t, .tmp u]) (hv : ev n L (.tmp t) = v) (hv' : ev n L (.tmp u) = v') (h : R (.returned (.tuple #[v, v'])) w) : XW (bodyPost P fn R) .ret n L w :=
  ⟨⟨rfl, _, by rw [results_tmp2 hr, fr_get, fr_get, hv, hv'], h⟩⟩
theorem run_loadBlk {k : Nat} (ht : szOf P ty = some (true, k)) (hb : w.heap[b]? = some (.cells cs.toArray T (0, 0))) (hk : cs.length = k) : (loadVar ty ⟨b, 0, none⟩).run P w = .ok (.agg cs.toArray) w := by
  subst hk
  simp [loadVar, run_isAgg ht, run_sizeOf_ ht, loadCells, run_loadCells w b 0 cs 0 #[] (cells_of hb (by simp))]
theorem t_retc (hr : fn.results = #[.cell t ty]) (hv : ev n L (.tmp t) = .pointer (some ⟨b, 0, none⟩)) (hb : w.heap[b]? = some (.cells cs.toArray T (0, 0))) (ht : szOf P ty = some (true, cs.length)) (h : R (.returned (.agg cs.toArray)) w) : XW (bodyPost P fn R) .ret n L w :=
  ⟨⟨rfl, .agg cs.toArray, by
    have hg : (fr n L).tmps.getD t undef = .pointer (some ⟨b, 0, none⟩) := by rw [fr_get, hv]
    have hg' : (fr n L).tmps[t]?.getD undef = .pointer (some ⟨b, 0, none⟩) := by simpa using hg
    simp [results, hr, hg', asAddr, run_loadBlk ht hb rfl], h⟩⟩
theorem t_retct (hr : fn.results = #[.cell t ty, .tmp u]) (hv : ev n L (.tmp t) = .pointer (some ⟨b, 0, none⟩)) (hv' : ev n L (.tmp u) = v') (hb : w.heap[b]? = some (.cells cs.toArray T (0, 0))) (ht : szOf P ty = some (true, cs.length)) (h : R (.returned (.tuple #[.agg cs.toArray, v'])) w) : XW (bodyPost P fn R) .ret n L w :=
  ⟨⟨rfl, .tuple #[.agg cs.toArray, v'], by
    have hg : (fr n L).tmps.getD t undef = .pointer (some ⟨b, 0, none⟩) := by rw [fr_get, hv]
    have hg' : (fr n L).tmps[t]?.getD undef = .pointer (some ⟨b, 0, none⟩) := by simpa using hg
    have hu : (fr n L).tmps[u]?.getD undef = v' := by have := fr_get (n := n) (L := L) u; rw [hv'] at this; simpa using this
    simp [results, hr, hg', hu, asAddr, run_loadBlk ht hb rfl], h⟩⟩
theorem t_retctt (hr : fn.results = #[.cell t ty, .tmp u, .tmp s]) (hv : ev n L (.tmp t) = .pointer (some ⟨b, 0, none⟩)) (hv' : ev n L (.tmp u) = v') (hv'' : ev n L (.tmp s) = v'') (hb : w.heap[b]? = some (.cells cs.toArray T (0, 0))) (ht : szOf P ty = some (true, cs.length)) (h : R (.returned (.tuple #[.agg cs.toArray, v', v''])) w) : XW (bodyPost P fn R) .ret n L w :=
  ⟨⟨rfl, .tuple #[.agg cs.toArray, v', v''], by
    have hg : (fr n L).tmps.getD t undef = .pointer (some ⟨b, 0, none⟩) := by rw [fr_get, hv]
    have hg' : (fr n L).tmps[t]?.getD undef = .pointer (some ⟨b, 0, none⟩) := by simpa using hg
    have hu : (fr n L).tmps[u]?.getD undef = v' := by have := fr_get (n := n) (L := L) u; rw [hv'] at this; simpa using this
    have hs : (fr n L).tmps[s]?.getD undef = v'' := by have := fr_get (n := n) (L := L) s; rw [hv''] at this; simpa using this
    simp [results, hr, hg', hu, hs, asAddr, run_loadBlk ht hb rfl], h⟩⟩
end
section
variable {P : Program} {l : List Oper} {Q : Exit → Act → World → Prop} {n : Nat} {L : List (Nat × Value)} {w w0 : World} {o : Oper} {X : Nat → Prop} {σ : List Blk} {S : World → Prop} {fuel : Nat} {listed listed' : Array Bool} {i : Nat}
structure AH (P : Program) (l : List Oper) (Q : Exit → Act → World → Prop) (S : World → Prop) (fuel : Nat) (listed : Array Bool) (n : Nat) (L : List (Nat × Value)) (w : World) : Prop where mk :: (out : wpAnyH P .any l.toArray Q S fuel listed (fr n L) w)
theorem d_start {id : Nat} (hm : P.follows .mixedOrders = true) (S : World → Prop) (h : AH P l Q S l.length (Array.replicate l.length false) n L w.drew) : CW P (.region id l.toArray true) Q n L w := ⟨wp_region_held (S := S) hm (by simpa using h.out)⟩
theorem d_take {v : Value} {d : Tmp} (i : Nat) (hi : l[i]? = some o) (hs : Region.noSelect l.toArray = true) (hf : Region.free .any l.toArray listed i = true) (hr : (Region.ready .any l.toArray listed).contains i = true)
    (hd : o.dst = some d) (hQ : ∀ c a w, Q (.panic c) (a.put (some d) v) w → Q (.panic c) a w) (hw : Region.wanted o (yielded l.toArray (fr n L).tmps) = true) (hy : ∀ w, S w → (execOp (ev n L) o).run P w = .ok (.value v) w) (hS : S w) (hl : listed.setIfInBounds i true = listed')
    (h : AH P l Q S fuel listed' n ((d, v) :: L) w) : AH P l Q S (fuel + 1) listed n L w := by
  subst hl
  refine ⟨wpAnyH_take (by simpa using hi) hs hf hr (by rw [hd]; exact hQ) (.inl ⟨hw, fun w hw' => by rw [fr_ev]; exact hy w hw'⟩) hS ?_⟩
  rw [fr_put, hd]; exact h.out
theorem d_one (i : Nat) (hi : l[i]? = some o) (hr : Region.ready .any l.toArray listed = [i]) (hw : Region.wanted o (yielded l.toArray (fr n L).tmps) = true) (hl : listed.setIfInBounds i true = listed')
    (h : OW P o n L w (fun L' w' => S w' ∧ AH P l Q S fuel listed' n L' w') Q) : AH P l Q S (fuel + 1) listed n L w := by
  subst hl
  refine ⟨wpAnyH_all hr (by simp) fun k hk => ?_⟩
  obtain rfl := List.mem_singleton.1 hk
  unfold wpOp
  rw [show l.toArray[k]? = some o by simpa using hi]
  simp only [hw, if_true]
  exact .inl (Oper.wp_mono (fun a w hh => by obtain ⟨L', rfl, h1, h2⟩ := hh; exact ⟨h1, h2.out⟩) h.out)
theorem d_two (i j : Nat) {o' : Oper} {listed'' : Array Bool} (hi : l[i]? = some o) (hj : l[j]? = some o') (hr : Region.ready .any l.toArray listed = [i, j]) (hw : Region.wanted o (yielded l.toArray (fr n L).tmps) = true) (hw' : Region.wanted o' (yielded l.toArray (fr n L).tmps) = true) (hl : listed.setIfInBounds i true = listed') (hl' : listed.setIfInBounds j true = listed'')
    (h : OW P o n L w (fun L' w' => S w' ∧ AH P l Q S fuel listed' n L' w') Q) (h' : OW P o' n L w (fun L' w' => S w' ∧ AH P l Q S fuel listed'' n L' w') Q) : AH P l Q S (fuel + 1) listed n L w := by
  subst hl hl'
  refine ⟨wpAnyH_all hr (by simp) fun k hk => ?_⟩
  unfold wpOp
  rcases List.mem_cons.1 hk with rfl | hk
  · rw [show l.toArray[k]? = some o by simpa using hi]; simp only [hw, if_true]; exact .inl (Oper.wp_mono (fun a w hh => by obtain ⟨L', rfl, h1, h2⟩ := hh; exact ⟨h1, h2.out⟩) h.out)
  · obtain rfl := List.mem_singleton.1 hk
    rw [show l.toArray[k]? = some o' by simpa using hj]; simp only [hw', if_true]; exact .inl (Oper.wp_mono (fun a w hh => by obtain ⟨L', rfl, h1, h2⟩ := hh; exact ⟨h1, h2.out⟩) h'.out)
theorem d_three (i j k : Nat) {o' o'' : Oper} {la lb lc : Array Bool} (hi : l[i]? = some o) (hj : l[j]? = some o') (hk : l[k]? = some o'') (hr : Region.ready .any l.toArray listed = [i, j, k]) (hw : Region.wanted o (yielded l.toArray (fr n L).tmps) = true) (hw' : Region.wanted o' (yielded l.toArray (fr n L).tmps) = true) (hw'' : Region.wanted o'' (yielded l.toArray (fr n L).tmps) = true) (hl : listed.setIfInBounds i true = la) (hl' : listed.setIfInBounds j true = lb) (hl'' : listed.setIfInBounds k true = lc)
    (h : OW P o n L w (fun L' w' => S w' ∧ AH P l Q S fuel la n L' w') Q) (h' : OW P o' n L w (fun L' w' => S w' ∧ AH P l Q S fuel lb n L' w') Q) (h'' : OW P o'' n L w (fun L' w' => S w' ∧ AH P l Q S fuel lc n L' w') Q) : AH P l Q S (fuel + 1) listed n L w := by
  subst hl hl' hl''
  refine ⟨wpAnyH_all hr (by simp) fun m hm => ?_⟩
  unfold wpOp
  have fin : ∀ {oo : Oper} {lx : Array Bool}, OW P oo n L w (fun L' w' => S w' ∧ AH P l Q S fuel lx n L' w') Q → Oper.wp P oo (fr n L) w (fun a' w' => S w' ∧ wpAnyH P .any l.toArray Q S fuel lx a' w') Q := fun h => Oper.wp_mono (fun a w hh => by obtain ⟨L', rfl, h1, h2⟩ := hh; exact ⟨h1, h2.out⟩) h.out
  rcases List.mem_cons.1 hm with rfl | hm
  · rw [show l.toArray[m]? = some o by simpa using hi]; simp only [hw, if_true]; exact .inl (fin h)
  · rcases List.mem_cons.1 hm with rfl | hm
    · rw [show l.toArray[m]? = some o' by simpa using hj]; simp only [hw', if_true]; exact .inl (fin h')
    · obtain rfl := List.mem_singleton.1 hm
      rw [show l.toArray[m]? = some o'' by simpa using hk]; simp only [hw'', if_true]; exact .inl (fin h'')
theorem d_done (hr : Region.ready .any l.toArray listed = []) (h : XW Q .normal n L w) : AH P l Q S fuel listed n L w := ⟨wpAnyH_done hr h.out _⟩
end
theorem beq_t {a b : Int} (h : a = b) : (a == b) = true := by simpa using h
theorem beq_f {a b : Int} (h : a ≠ b) : (a == b) = false := by simpa using h
theorem bne_t {a b : Int} (h : a ≠ b) : (a != b) = true := by simpa using h
theorem bne_f {a b : Int} (h : a = b) : (a != b) = false := by simpa using h
theorem w64 {a : Int} (h0 : -9223372036854775808 ≤ a) (h1 : a ≤ 9223372036854775807) : IntKind.i64.wrap a = a := IntWalk.i64_in a ⟨h0, h1⟩
theorem w_succ {k : Nat} (h : k ≤ 4611686018427387904) : IntKind.i64.wrap ((k : Int) + 1) = ((k + 1 : Nat) : Int) := by rw [w64 (by omega) (by omega)]; omega
section
variable {P : Program} {l rest : List Oper} {Q : Exit → Act → World → Prop} {n : Nat} {L : List (Nat × Value)} {w w' : World} {o : Oper}
theorem qv {v : Value} {d : Tmp} (hr : (execOp (ev n L) o).run P w = .ok (.value v) w') (h : WL P l Q rest n ((d, v) :: L) w') (hw : Region.wanted o (yielded l.toArray (fr n L).tmps) = true := by exact wn rfl) (hd : o.dst = some d := by rfl) : WL P l Q (o :: rest) n L w := q_val hw hd hr h
theorem qo (h : OW P o n L w (fun L' w' => WL P l Q rest n L' w') Q) (hw : Region.wanted o (yielded l.toArray (fr n L).tmps) = true := by exact wn rfl) : WL P l Q (o :: rest) n L w := q_of hw h
end
end Go.Proofs.Ytilfalpfanaanaa.Sx

namespace Go.Proofs.Ytilfalpfanaanaa.PA
open Go.RowKit Go.Proofs.YtilfalpfanaanaaW.PrintWords Go.Proofs.YtilfalpfanaanaaW.PrintLast Go.Proofs.YtilfalpfanaanaaW.PrintMore Go.Proofs.Ytilfalpfanaanaa.LibRow
def slices_Clone_int_int.f (l0 : List Int) : Option (List Int) := if l0.length * 8 ≤ 140737488355328 then some l0 else none
theorem slices_Clone_int_int.calls (A0 : Option Addr) (c0 : Nat) (l0 : List Int) (r : List Int) (w : World) (hr0 : Kd.C (Kd.int .i64) w A0 l0.length l0) (hc0 : l0.length ≤ c0) (h : slices_Clone_int_int.f l0 = some r) :
    Calls Try.prog 55 #[.slice A0 l0.length c0] w fun e w' => ∃ v0_ : Value, e = .returned (v0_) ∧ Kd.R (Kd.int .i64) 3 w' w.heap.size (fun _ => True) v0_ r ∧ Below w.heap.size w w' := by
  unfold slices_Clone_int_int.f at h
  by_cases hh : l0.length * 8 ≤ 140737488355328
  · rw [if_pos hh] at h
    obtain rfl := Option.some.inj h
    exact clone_row A0 c0 l0 w hr0 hh
  · rw [if_neg hh] at h
    cases h
end Go.Proofs.Ytilfalpfanaanaa.PA

namespace Go.Proofs.Ytilfalpfanaanaa.PA
open Go.RowKit Go.Proofs.YtilfalpfanaanaaW.PrintWords Go.Proofs.YtilfalpfanaanaaW.PrintLast Go.Proofs.YtilfalpfanaanaaW.PrintMore
attribute [local go_sem] max2_int min2_int max_two min_two max_three min_three max_four min_four   -- for this text's walks alone
def white_Can.f (k : Nat) (a0_0 : Bool) (l0_1 : List Int) : Option (Bool) := (white_can.f k a0_0 l0_1).bind fun t178 => (some t178)
set_option maxHeartbeats 8000000 in
set_option maxRecDepth 100000 in
theorem white_Can.calls (k : Nat) (a0_0 : Bool) (A0_1 : Option Addr) (c0_1 : Nat) (l0_1 : List Int) (r : Bool) (w : World) (hr0_1 : Kd.C (Kd.int .i64) w A0_1 l0_1.length l0_1) (hc0_1 : l0_1.length ≤ c0_1) (h : white_Can.f k a0_0 l0_1 = some r) :
    Calls Try.prog 53 #[.agg #[.bool a0_0, .slice A0_1 l0_1.length c0_1]] w fun e w' => e = .returned (.bool r) ∧ Below w.heap.size w w' := by
  have hu26 := Try.underlying26
  have HR0_1 := Aside0.mk hr0_1
  have HC0_1 := Aside0.mk hc0_1
  clear hr0_1 hc0_1
  have HB := Aside0.mk (Below.refl w.heap.size w)
  have H : ((white_can.f k a0_0 l0_1).bind fun t178 => (some t178)) = some r := h
  clear h
  replace H := Option.bind_eq_some_iff.mp H
  obtain ⟨t178, A20, H⟩ := H
  replace H : (some t178) = some r := H
  have A2 := Aside0.mk A20
  clear A20
  obtain rfl := Option.some.inj H
  go_enter Try.func53, Try.ntmps53
  go_wp2_with (first | ((with_reducible refine gate_dst (N := 1) rfl ?_); refine box_event ?hg (N := 1) ?hd (cs := #[.bool a0_0, .slice A0_1 l0_1.length c0_1]) (t := 26) ?hr ?_; (case hd => rfl); (case hg => rfl); (case hr => first | (go_simp; done) | (go_simp; rfl)); intro gb177 hg w3 hbox hb; have n0_ := Aside0.mk (below_step (by repeat (first | (with_reducible first | exact HB.out | apply below_alloc | apply pw_below_drewN | apply below_drew1) | exact HB.out)) hb); have n1_ := Aside0.mk (hbox); have n2_ := Aside0.mk ((by rw [hg]; exact (below_size (by repeat (first | (with_reducible first | exact HB.out | apply below_alloc | apply pw_below_drewN | apply below_drew1) | exact HB.out))) : w.heap.size ≤ gb177)); have n3_ := Aside0.mk ((by rw [hg]; exact (below_size (by repeat (first | (with_reducible first | exact HB.out | apply below_alloc | apply pw_below_drewN | apply below_drew1) | exact HB.out))) : w.heap.size ≤ gb177)); clear HB; have HB := n0_; have BK177 := n1_; have GW177 := n2_; have GE177 := n3_; clear n0_ n1_ n2_ n3_; clear hb hbox hg; have hcz4_0 : w3.cell? ⟨gb177, 0, none⟩ = some (.bool a0_0) := (blk_cell BK177.out 0).trans rfl; have hcz4_1 : w3.cell? ⟨gb177, 1, none⟩ = some (.slice A0_1 l0_1.length c0_1) := (blk_cell BK177.out 1).trans rfl; have hfz4_0 := blk_frozen BK177.out 0; have hfz4_1 := blk_frozen BK177.out 1) | ((with_reducible refine gate_callee (f := 57) rfl ?_); refine goesL_ (some 4) rfl rfl Try.func57 (by kernel_rfl) rfl #[.agg #[.bool a0_0, .slice A0_1 l0_1.length c0_1]] rfl (by (try simp only [List.map_toArray, List.map_cons, List.map_nil]); first | done | rfl | (simp only [List.length_drop, List.length_take]; rfl)) ?_; (with_reducible refine (white_can.calls k a0_0 _ _ l0_1 t178 _ ?side1 ?side2 A2.out).mono ?_); (case side1 => repeat (first | exact (Kd.C_below HR0_1.out HB.out) | (with_reducible refine Kd.C_alloc ?_ _) | (with_reducible refine Kd.C_drewN ?_ _) | (with_reducible refine Kd.C_drew ?_))); (case side2 => exact HC0_1.out); rintro e w5 ⟨rfl, hb⟩; refine ⟨_, rfl, ?_⟩; have n0_ := Aside0.mk (blk_below (g := gb177) (o := .cells #[.bool a0_0, .slice A0_1 l0_1.length c0_1] 26 (0, 0)) (by (with_reducible repeat (first | refine blk_drewN ?_ _ | refine blk_drew ?_ | refine blk_alloc ?_ _)); exact BK177.out) hb); have n1_ := Aside0.mk (below_step (by repeat (first | (with_reducible first | exact HB.out | apply below_alloc | apply pw_below_drewN | apply below_drew1 | refine below_set ?_ GE177.out) | exact HB.out)) hb); clear BK177; clear HB; have BK177 := n0_; have HB := n1_; clear n0_ n1_; (try clear hb); (try clear hb2); (try clear hk); (try clear hi)))
  go_ret
  exact ⟨by first | rfl | (simp [errW_none, errW_some] <;> rfl) | (simp [*, errW_none, errW_some] <;> rfl), by repeat (first | (with_reducible first | exact HB.out | apply below_alloc | apply pw_below_drewN | apply below_drew1 | refine below_set ?_ GE177.out) | exact HB.out)⟩
def slots_can.f (k : Nat) (a0_0 : Int) (a0_1 : Int) (a0_2 : Bool) (l0_3 : List Int) (a0_4 : Int) : Option (Bool) := if a0_0 > 0 then ((white_Can.f k a0_2 l0_3).bind fun t180 => (if t180 = true then (some ((Go.bits .andNot .i64 a0_4 120) == 0)) else (some false))) else (some false)
set_option maxHeartbeats 8000000 in
set_option maxRecDepth 100000 in
theorem slots_can.calls (k : Nat) (a0_0 : Int) (a0_1 : Int) (a0_2 : Bool) (A0_3 : Option Addr) (c0_3 : Nat) (l0_3 : List Int) (a0_4 : Int) (r : Bool) (w : World) (hr0_3 : Kd.C (Kd.int .i64) w A0_3 l0_3.length l0_3) (hc0_3 : l0_3.length ≤ c0_3) (h : slots_can.f k a0_0 a0_1 a0_2 l0_3 a0_4 = some r) :
    Calls Try.prog 33 #[.agg #[.int .i64 a0_0, .int .u32 a0_1, .bool a0_2, .slice A0_3 l0_3.length c0_3, .int .i64 a0_4]] w fun e w' => e = .returned (.bool r) ∧ Below w.heap.size w w' := by
  have hu28 := Try.underlying28
  have hu26 := Try.underlying26
  have HR0_3 := Aside0.mk hr0_3
  have HC0_3 := Aside0.mk hc0_3
  clear hr0_3 hc0_3
  have HB := Aside0.mk (Below.refl w.heap.size w)
  have H : (if a0_0 > 0 then ((white_Can.f k a0_2 l0_3).bind fun t180 => (if t180 = true then (some ((Go.bits .andNot .i64 a0_4 120) == 0)) else (some false))) else (some false)) = some r := h
  clear h
  by_cases c2 : a0_0 > 0
  · rw [if_pos c2] at H
    have c2b0 : decide (0 < a0_0) = true := decide_eq_true c2
    clear c2
    replace H := Option.bind_eq_some_iff.mp H
    obtain ⟨t180, A30, H⟩ := H
    replace H : (if t180 = true then (some ((Go.bits .andNot .i64 a0_4 120) == 0)) else (some false)) = some r := H
    have A3 := Aside0.mk A30
    clear A30
    by_cases c4 : t180 = true
    · subst c4
      have H1 : (some ((Go.bits .andNot .i64 a0_4 120) == 0)) = some r := by rw [if_pos rfl] at H; exact H
      clear H
      have H := H1
      clear H1
      obtain rfl := Option.some.inj H
      go_enter Try.func33, Try.ntmps33
      go_wp2_with (first | ((with_reducible refine gate_dst (N := 1) rfl ?_); refine box_event ?hg (N := 1) ?hd (cs := #[.int .i64 a0_0, .int .u32 a0_1, .bool a0_2, .slice A0_3 l0_3.length c0_3, .int .i64 a0_4]) (t := 28) ?hr ?_; (case hd => rfl); (case hg => rfl); (case hr => first | (go_simp; done) | (go_simp; rfl)); intro gb179 hg w5 hbox hb; have n0_ := Aside0.mk (below_step (by repeat (first | (with_reducible first | exact HB.out | apply below_alloc | apply pw_below_drewN | apply below_drew1) | exact HB.out)) hb); have n1_ := Aside0.mk (hbox); have n2_ := Aside0.mk ((by rw [hg]; exact (below_size (by repeat (first | (with_reducible first | exact HB.out | apply below_alloc | apply pw_below_drewN | apply below_drew1) | exact HB.out))) : w.heap.size ≤ gb179)); have n3_ := Aside0.mk ((by rw [hg]; exact (below_size (by repeat (first | (with_reducible first | exact HB.out | apply below_alloc | apply pw_below_drewN | apply below_drew1) | exact HB.out))) : w.heap.size ≤ gb179)); clear HB; have HB := n0_; have BK179 := n1_; have GW179 := n2_; have GE179 := n3_; clear n0_ n1_ n2_ n3_; clear hb hbox hg; have hcz6_0 : w5.cell? ⟨gb179, 0, none⟩ = some (.int .i64 a0_0) := (blk_cell BK179.out 0).trans rfl; have hcz6_1 : w5.cell? ⟨gb179, 1, none⟩ = some (.int .u32 a0_1) := (blk_cell BK179.out 1).trans rfl; have hcz6_2 : w5.cell? ⟨gb179, 2, none⟩ = some (.bool a0_2) := (blk_cell BK179.out 2).trans rfl; have hcz6_3 : w5.cell? ⟨gb179, 3, none⟩ = some (.slice A0_3 l0_3.length c0_3) := (blk_cell BK179.out 3).trans rfl; have hcz6_4 : w5.cell? ⟨gb179, 4, none⟩ = some (.int .i64 a0_4) := (blk_cell BK179.out 4).trans rfl; have hfz6_0 := blk_frozen BK179.out 0; have hfz6_1 := blk_frozen BK179.out 1; have hfz6_2 := blk_frozen BK179.out 2; have hfz6_3 := blk_frozen BK179.out 3; have hfz6_4 := blk_frozen BK179.out 4) | (go_at_call 53; (with_reducible refine (white_Can.calls k a0_2 _ _ l0_3 true _ ?side1 ?side2 A3.out).mono ?_); (case side1 => repeat (first | exact (Kd.C_below HR0_3.out HB.out) | (with_reducible refine Kd.C_alloc ?_ _) | (with_reducible refine Kd.C_drewN ?_ _) | (with_reducible refine Kd.C_drew ?_))); (case side2 => exact HC0_3.out); rintro e w7 ⟨rfl, hb⟩; have n0_ := Aside0.mk (blk_below (g := gb179) (o := .cells #[.int .i64 a0_0, .int .u32 a0_1, .bool a0_2, .slice A0_3 l0_3.length c0_3, .int .i64 a0_4] 28 (0, 0)) (by (with_reducible repeat (first | refine blk_drewN ?_ _ | refine blk_drew ?_ | refine blk_alloc ?_ _)); exact BK179.out) hb); have n1_ := Aside0.mk (below_step (by repeat (first | (with_reducible first | exact HB.out | apply below_alloc | apply pw_below_drewN | apply below_drew1 | refine below_set ?_ GE179.out) | exact HB.out)) hb); clear BK179; clear HB; have BK179 := n0_; have HB := n1_; clear n0_ n1_; (try clear hb); (try clear hb2); (try clear hk); (try clear hi); have hcz8_0 : w7.cell? ⟨gb179, 0, none⟩ = some (.int .i64 a0_0) := (blk_cell BK179.out 0).trans rfl; have hcz8_1 : w7.cell? ⟨gb179, 1, none⟩ = some (.int .u32 a0_1) := (blk_cell BK179.out 1).trans rfl; have hcz8_2 : w7.cell? ⟨gb179, 2, none⟩ = some (.bool a0_2) := (blk_cell BK179.out 2).trans rfl; have hcz8_3 : w7.cell? ⟨gb179, 3, none⟩ = some (.slice A0_3 l0_3.length c0_3) := (blk_cell BK179.out 3).trans rfl; have hcz8_4 : w7.cell? ⟨gb179, 4, none⟩ = some (.int .i64 a0_4) := (blk_cell BK179.out 4).trans rfl; have hfz8_0 := blk_frozen BK179.out 0; have hfz8_1 := blk_frozen BK179.out 1; have hfz8_2 := blk_frozen BK179.out 2; have hfz8_3 := blk_frozen BK179.out 3; have hfz8_4 := blk_frozen BK179.out 4))
      go_ret
      exact ⟨by first | rfl | (simp [errW_none, errW_some] <;> rfl) | (simp [*, errW_none, errW_some] <;> rfl), by repeat (first | (with_reducible first | exact HB.out | apply below_alloc | apply pw_below_drewN | apply below_drew1 | refine below_set ?_ GE179.out) | exact HB.out)⟩
    · replace c4 := Bool.eq_false_iff.mpr c4
      subst c4
      have H1 : (some false) = some r := by rw [if_neg (show ¬ (false = true) by decide)] at H; exact H
      clear H
      have H := H1
      clear H1
      obtain rfl := Option.some.inj H
      go_enter Try.func33, Try.ntmps33
      go_wp2_with (first | ((with_reducible refine gate_dst (N := 1) rfl ?_); refine box_event ?hg (N := 1) ?hd (cs := #[.int .i64 a0_0, .int .u32 a0_1, .bool a0_2, .slice A0_3 l0_3.length c0_3, .int .i64 a0_4]) (t := 28) ?hr ?_; (case hd => rfl); (case hg => rfl); (case hr => first | (go_simp; done) | (go_simp; rfl)); intro gb179 hg w9 hbox hb; have n0_ := Aside0.mk (below_step (by repeat (first | (with_reducible first | exact HB.out | apply below_alloc | apply pw_below_drewN | apply below_drew1) | exact HB.out)) hb); have n1_ := Aside0.mk (hbox); have n2_ := Aside0.mk ((by rw [hg]; exact (below_size (by repeat (first | (with_reducible first | exact HB.out | apply below_alloc | apply pw_below_drewN | apply below_drew1) | exact HB.out))) : w.heap.size ≤ gb179)); have n3_ := Aside0.mk ((by rw [hg]; exact (below_size (by repeat (first | (with_reducible first | exact HB.out | apply below_alloc | apply pw_below_drewN | apply below_drew1) | exact HB.out))) : w.heap.size ≤ gb179)); clear HB; have HB := n0_; have BK179 := n1_; have GW179 := n2_; have GE179 := n3_; clear n0_ n1_ n2_ n3_; clear hb hbox hg; have hcz10_0 : w9.cell? ⟨gb179, 0, none⟩ = some (.int .i64 a0_0) := (blk_cell BK179.out 0).trans rfl; have hcz10_1 : w9.cell? ⟨gb179, 1, none⟩ = some (.int .u32 a0_1) := (blk_cell BK179.out 1).trans rfl; have hcz10_2 : w9.cell? ⟨gb179, 2, none⟩ = some (.bool a0_2) := (blk_cell BK179.out 2).trans rfl; have hcz10_3 : w9.cell? ⟨gb179, 3, none⟩ = some (.slice A0_3 l0_3.length c0_3) := (blk_cell BK179.out 3).trans rfl; have hcz10_4 : w9.cell? ⟨gb179, 4, none⟩ = some (.int .i64 a0_4) := (blk_cell BK179.out 4).trans rfl; have hfz10_0 := blk_frozen BK179.out 0; have hfz10_1 := blk_frozen BK179.out 1; have hfz10_2 := blk_frozen BK179.out 2; have hfz10_3 := blk_frozen BK179.out 3; have hfz10_4 := blk_frozen BK179.out 4) | (go_at_call 53; (with_reducible refine (white_Can.calls k a0_2 _ _ l0_3 false _ ?side1 ?side2 A3.out).mono ?_); (case side1 => repeat (first | exact (Kd.C_below HR0_3.out HB.out) | (with_reducible refine Kd.C_alloc ?_ _) | (with_reducible refine Kd.C_drewN ?_ _) | (with_reducible refine Kd.C_drew ?_))); (case side2 => exact HC0_3.out); rintro e w11 ⟨rfl, hb⟩; have n0_ := Aside0.mk (blk_below (g := gb179) (o := .cells #[.int .i64 a0_0, .int .u32 a0_1, .bool a0_2, .slice A0_3 l0_3.length c0_3, .int .i64 a0_4] 28 (0, 0)) (by (with_reducible repeat (first | refine blk_drewN ?_ _ | refine blk_drew ?_ | refine blk_alloc ?_ _)); exact BK179.out) hb); have n1_ := Aside0.mk (below_step (by repeat (first | (with_reducible first | exact HB.out | apply below_alloc | apply pw_below_drewN | apply below_drew1 | refine below_set ?_ GE179.out) | exact HB.out)) hb); clear BK179; clear HB; have BK179 := n0_; have HB := n1_; clear n0_ n1_; (try clear hb); (try clear hb2); (try clear hk); (try clear hi)))
      go_ret
      exact ⟨by first | rfl | (simp [errW_none, errW_some] <;> rfl) | (simp [*, errW_none, errW_some] <;> rfl), by repeat (first | (with_reducible first | exact HB.out | apply below_alloc | apply pw_below_drewN | apply below_drew1 | refine below_set ?_ GE179.out) | exact HB.out)⟩
  · rw [if_neg c2] at H
    have c2b0 : decide (0 < a0_0) = false := decide_eq_false c2
    clear c2
    obtain rfl := Option.some.inj H
    go_enter Try.func33, Try.ntmps33
    go_wp2_with (first | ((with_reducible refine gate_dst (N := 1) rfl ?_); refine box_event ?hg (N := 1) ?hd (cs := #[.int .i64 a0_0, .int .u32 a0_1, .bool a0_2, .slice A0_3 l0_3.length c0_3, .int .i64 a0_4]) (t := 28) ?hr ?_; (case hd => rfl); (case hg => rfl); (case hr => first | (go_simp; done) | (go_simp; rfl)); intro gb179 hg w12 hbox hb; have n0_ := Aside0.mk (below_step (by repeat (first | (with_reducible first | exact HB.out | apply below_alloc | apply pw_below_drewN | apply below_drew1) | exact HB.out)) hb); have n1_ := Aside0.mk (hbox); have n2_ := Aside0.mk ((by rw [hg]; exact (below_size (by repeat (first | (with_reducible first | exact HB.out | apply below_alloc | apply pw_below_drewN | apply below_drew1) | exact HB.out))) : w.heap.size ≤ gb179)); have n3_ := Aside0.mk ((by rw [hg]; exact (below_size (by repeat (first | (with_reducible first | exact HB.out | apply below_alloc | apply pw_below_drewN | apply below_drew1) | exact HB.out))) : w.heap.size ≤ gb179)); clear HB; have HB := n0_; have BK179 := n1_; have GW179 := n2_; have GE179 := n3_; clear n0_ n1_ n2_ n3_; clear hb hbox hg; have hcz13_0 : w12.cell? ⟨gb179, 0, none⟩ = some (.int .i64 a0_0) := (blk_cell BK179.out 0).trans rfl; have hcz13_1 : w12.cell? ⟨gb179, 1, none⟩ = some (.int .u32 a0_1) := (blk_cell BK179.out 1).trans rfl; have hcz13_2 : w12.cell? ⟨gb179, 2, none⟩ = some (.bool a0_2) := (blk_cell BK179.out 2).trans rfl; have hcz13_3 : w12.cell? ⟨gb179, 3, none⟩ = some (.slice A0_3 l0_3.length c0_3) := (blk_cell BK179.out 3).trans rfl; have hcz13_4 : w12.cell? ⟨gb179, 4, none⟩ = some (.int .i64 a0_4) := (blk_cell BK179.out 4).trans rfl; have hfz13_0 := blk_frozen BK179.out 0; have hfz13_1 := blk_frozen BK179.out 1; have hfz13_2 := blk_frozen BK179.out 2; have hfz13_3 := blk_frozen BK179.out 3; have hfz13_4 := blk_frozen BK179.out 4))
    go_ret
    exact ⟨by first | rfl | (simp [errW_none, errW_some] <;> rfl) | (simp [*, errW_none, errW_some] <;> rfl), by repeat (first | (with_reducible first | exact HB.out | apply below_alloc | apply pw_below_drewN | apply below_drew1 | refine below_set ?_ GE179.out) | exact HB.out)⟩
def slots_own.f (a0_0 : Int) (a0_1 : Int) (a0_2 : Bool) (l0_3 : List Int) (a0_4 : Int) : Option (Int × Int × Bool × List Int × Int) := (slices_Clone_int_int.f l0_3).bind fun t183 => (some (a0_0, a0_1, a0_2, t183, a0_4))
set_option maxHeartbeats 8000000 in
set_option maxRecDepth 100000 in
theorem slots_own.calls (a0_0 : Int) (a0_1 : Int) (a0_2 : Bool) (A0_3 : Option Addr) (c0_3 : Nat) (l0_3 : List Int) (a0_4 : Int) (r1 : Int) (r2 : Int) (r3 : Bool) (r4 : List Int) (r5 : Int) (w : World) (hr0_3 : Kd.C (Kd.int .i64) w A0_3 l0_3.length l0_3) (hc0_3 : l0_3.length ≤ c0_3) (h : slots_own.f a0_0 a0_1 a0_2 l0_3 a0_4 = some (r1, r2, r3, r4, r5)) :
    Calls Try.prog 35 #[.agg #[.int .i64 a0_0, .int .u32 a0_1, .bool a0_2, .slice A0_3 l0_3.length c0_3, .int .i64 a0_4]] w fun e w' => ∃ v3_ : Value, e = .returned (.agg #[.int .i64 r1, .int .u32 r2, .bool r3, v3_, .int .i64 r5]) ∧ Kd.R (Kd.int .i64) 3 w' w.heap.size (fun _ => True) v3_ r4 ∧ Below w.heap.size w w' := by
  have hu28 := Try.underlying28
  have HR0_3 := Aside0.mk hr0_3
  have HC0_3 := Aside0.mk hc0_3
  clear hr0_3 hc0_3
  have HB := Aside0.mk (Below.refl w.heap.size w)
  have H : ((slices_Clone_int_int.f l0_3).bind fun t183 => (some (a0_0, a0_1, a0_2, t183, a0_4))) = some (r1, r2, r3, r4, r5) := h
  clear h
  replace H := Option.bind_eq_some_iff.mp H
  obtain ⟨t183, A20, H⟩ := H
  replace H : (some (a0_0, a0_1, a0_2, t183, a0_4)) = some (r1, r2, r3, r4, r5) := H
  have A2 := Aside0.mk A20
  clear A20
  simp only [Option.some.injEq, Prod.mk.injEq] at H
  obtain ⟨rfl, rfl, rfl, rfl, rfl⟩ := H
  go_enter Try.func35, Try.ntmps35
  go_wp2_with (first | ((with_reducible refine gate_dst (N := 1) rfl ?_); refine box_event ?hg (N := 1) ?hd (cs := #[.int .i64 a0_0, .int .u32 a0_1, .bool a0_2, .slice A0_3 l0_3.length c0_3, .int .i64 a0_4]) (t := 28) ?hr ?_; (case hd => rfl); (case hg => rfl); (case hr => first | (go_simp; done) | (go_simp; rfl)); intro gb181 hg w3 hbox hb; have n0_ := Aside0.mk (below_step (by repeat (first | (with_reducible first | exact HB.out | apply below_alloc | apply pw_below_drewN | apply below_drew1) | exact HB.out)) hb); have n1_ := Aside0.mk (hbox); have n2_ := Aside0.mk ((by rw [hg]; exact (below_size (by repeat (first | (with_reducible first | exact HB.out | apply below_alloc | apply pw_below_drewN | apply below_drew1) | exact HB.out))) : w.heap.size ≤ gb181)); have n3_ := Aside0.mk ((by rw [hg]; exact (below_size (by repeat (first | (with_reducible first | exact HB.out | apply below_alloc | apply pw_below_drewN | apply below_drew1) | exact HB.out))) : w.heap.size ≤ gb181)); clear HB; have HB := n0_; have BK181 := n1_; have GW181 := n2_; have GE181 := n3_; clear n0_ n1_ n2_ n3_; clear hb hbox hg) | ((with_reducible refine gate_dst (N := 2) rfl ?_); refine box_event ?hg (N := 2) ?hd (cs := #[.int .i64 0, .int .u32 0, .bool false, .slice none 0 0, .int .i64 0]) (t := 28) ?hr ?_; (case hd => rfl); (case hg => rfl); (case hr => first | (go_simp; done) | (go_simp; rfl)); intro gb182 hg w4 hbox hb; have n0_ := Aside0.mk (blk_below (g := gb181) (o := .cells #[.int .i64 a0_0, .int .u32 a0_1, .bool a0_2, .slice A0_3 l0_3.length c0_3, .int .i64 a0_4] 28 (0, 0)) (by (with_reducible repeat (first | refine blk_drewN ?_ _ | refine blk_drew ?_ | refine blk_alloc ?_ _)); exact BK181.out) hb); have n1_ := Aside0.mk (below_step (by repeat (first | (with_reducible first | exact HB.out | apply below_alloc | apply pw_below_drewN | apply below_drew1 | refine below_set ?_ GE181.out) | exact HB.out)) hb); have n2_ := Aside0.mk (hbox); have n3_ := Aside0.mk ((by rw [hg]; exact (below_size (by repeat (first | (with_reducible first | exact HB.out | apply below_alloc | apply pw_below_drewN | apply below_drew1 | refine below_set ?_ GE181.out) | exact HB.out))) : w.heap.size ≤ gb182)); have n4_ := Aside0.mk ((by rw [hg]; exact (below_size (by repeat (first | (with_reducible first | exact HB.out | apply below_alloc | apply pw_below_drewN | apply below_drew1 | refine below_set ?_ GE181.out) | exact HB.out))) : w.heap.size ≤ gb182)); have n5_ := Aside0.mk ((by rw [hg]; exact Nat.ne_of_lt (blk_lt (g := gb181) (o := .cells #[.int .i64 a0_0, .int .u32 a0_1, .bool a0_2, .slice A0_3 l0_3.length c0_3, .int .i64 a0_4] 28 (0, 0)) (by (with_reducible repeat (first | refine blk_drewN ?_ _ | refine blk_drew ?_ | refine blk_alloc ?_ _)); exact BK181.out)) : gb181 ≠ gb182)); have n6_ := Aside0.mk ((by rw [hg]; exact Nat.ne_of_gt (blk_lt (g := gb181) (o := .cells #[.int .i64 a0_0, .int .u32 a0_1, .bool a0_2, .slice A0_3 l0_3.length c0_3, .int .i64 a0_4] 28 (0, 0)) (by (with_reducible repeat (first | refine blk_drewN ?_ _ | refine blk_drew ?_ | refine blk_alloc ?_ _)); exact BK181.out)) : gb182 ≠ gb181)); clear BK181; clear HB; have BK181 := n0_; have HB := n1_; have BK182 := n2_; have GW182 := n3_; have GE182 := n4_; have NB181_182 := n5_; have NB182_181 := n6_; clear n0_ n1_ n2_ n3_ n4_ n5_ n6_; clear hb hbox hg; have hnb5 := NB181_182.out; have hnc5 := NB182_181.out; have hcz6_0 : w4.cell? ⟨gb181, 0, none⟩ = some (.int .i64 a0_0) := (blk_cell BK181.out 0).trans rfl; have hcz6_1 : w4.cell? ⟨gb181, 1, none⟩ = some (.int .u32 a0_1) := (blk_cell BK181.out 1).trans rfl; have hcz6_2 : w4.cell? ⟨gb181, 2, none⟩ = some (.bool a0_2) := (blk_cell BK181.out 2).trans rfl; have hcz6_3 : w4.cell? ⟨gb181, 3, none⟩ = some (.slice A0_3 l0_3.length c0_3) := (blk_cell BK181.out 3).trans rfl; have hcz6_4 : w4.cell? ⟨gb181, 4, none⟩ = some (.int .i64 a0_4) := (blk_cell BK181.out 4).trans rfl; have hfz6_0 := blk_frozen BK181.out 0; have hfz6_1 := blk_frozen BK181.out 1; have hfz6_2 := blk_frozen BK181.out 2; have hfz6_3 := blk_frozen BK181.out 3; have hfz6_4 := blk_frozen BK181.out 4) | ((with_reducible refine gate_callee (f := 55) rfl ?_); refine goesL_ (some 6) rfl rfl Try.func55 (by kernel_rfl) rfl #[.slice A0_3 l0_3.length c0_3] rfl (by (try simp only [List.map_toArray, List.map_cons, List.map_nil]); first | done | rfl | (simp only [List.length_drop, List.length_take]; rfl)) ?_; (with_reducible refine (slices_Clone_int_int.calls _ _ l0_3 t183 _ ?side1 ?side2 A2.out).mono ?_); (case side1 => repeat (first | exact (Kd.C_below HR0_3.out HB.out) | (with_reducible refine Kd.C_alloc ?_ _) | (with_reducible refine Kd.C_drewN ?_ _) | (with_reducible refine Kd.C_drew ?_))); (case side2 => exact HC0_3.out); rintro e w7 ⟨v184, rfl, ho0, hb⟩; refine ⟨_, rfl, ?_⟩; have n0_ := Aside0.mk (Kd.R_lower ho0 (below_size (by repeat (first | (with_reducible first | exact HB.out | apply below_alloc | apply pw_below_drewN | apply below_drew1 | refine below_set ?_ GE181.out | refine below_set ?_ GE182.out) | exact HB.out)))); have n1_ := Aside0.mk (blk_below (g := gb181) (o := .cells #[.int .i64 a0_0, .int .u32 a0_1, .bool a0_2, .slice A0_3 l0_3.length c0_3, .int .i64 a0_4] 28 (0, 0)) (by (with_reducible repeat (first | refine blk_drewN ?_ _ | refine blk_drew ?_ | refine blk_alloc ?_ _)); exact BK181.out) hb); have n2_ := Aside0.mk (blk_below (g := gb182) (o := .cells #[.int .i64 0, .int .u32 0, .bool false, .slice none 0 0, .int .i64 0] 28 (0, 0)) (by (with_reducible repeat (first | refine blk_drewN ?_ _ | refine blk_drew ?_ | refine blk_alloc ?_ _)); exact BK182.out) hb); have n3_ := Aside0.mk (below_step (by repeat (first | (with_reducible first | exact HB.out | apply below_alloc | apply pw_below_drewN | apply below_drew1 | refine below_set ?_ GE181.out | refine below_set ?_ GE182.out) | exact HB.out)) hb); clear BK181; clear BK182; clear HB; have HO185 := n0_; have BK181 := n1_; have BK182 := n2_; have HB := n3_; clear n0_ n1_ n2_ n3_; (try clear hb); (try clear hb2); (try clear hk); (try clear hi); (try clear ho0); obtain ⟨Ao8, co8, eo8⟩ := Kd.R_slice HO185.out; subst eo8; have hcz9_0 : w7.cell? ⟨gb181, 0, none⟩ = some (.int .i64 a0_0) := (blk_cell BK181.out 0).trans rfl; have hcz9_1 : w7.cell? ⟨gb181, 1, none⟩ = some (.int .u32 a0_1) := (blk_cell BK181.out 1).trans rfl; have hcz9_2 : w7.cell? ⟨gb181, 2, none⟩ = some (.bool a0_2) := (blk_cell BK181.out 2).trans rfl; have hcz9_3 : w7.cell? ⟨gb181, 3, none⟩ = some (.slice A0_3 l0_3.length c0_3) := (blk_cell BK181.out 3).trans rfl; have hcz9_4 : w7.cell? ⟨gb181, 4, none⟩ = some (.int .i64 a0_4) := (blk_cell BK181.out 4).trans rfl; have hfz9_0 := blk_frozen BK181.out 0; have hfz9_1 := blk_frozen BK181.out 1; have hfz9_2 := blk_frozen BK181.out 2; have hfz9_3 := blk_frozen BK181.out 3; have hfz9_4 := blk_frozen BK181.out 4; have hcz10_0 : w7.cell? ⟨gb182, 0, none⟩ = some (.int .i64 0) := (blk_cell BK182.out 0).trans rfl; have hcz10_1 : w7.cell? ⟨gb182, 1, none⟩ = some (.int .u32 0) := (blk_cell BK182.out 1).trans rfl; have hcz10_2 : w7.cell? ⟨gb182, 2, none⟩ = some (.bool false) := (blk_cell BK182.out 2).trans rfl; have hcz10_3 : w7.cell? ⟨gb182, 3, none⟩ = some (.slice none 0 0) := (blk_cell BK182.out 3).trans rfl; have hcz10_4 : w7.cell? ⟨gb182, 4, none⟩ = some (.int .i64 0) := (blk_cell BK182.out 4).trans rfl; have hfz10_0 := blk_frozen BK182.out 0; have hfz10_1 := blk_frozen BK182.out 1; have hfz10_2 := blk_frozen BK182.out 2; have hfz10_3 := blk_frozen BK182.out 3; have hfz10_4 := blk_frozen BK182.out 4))
  refine bodyPost_ret (results_cell_row rfl _ _ gb182 28 #[.int .i64 a0_0, .int .u32 a0_1, .bool a0_2, .slice Ao8 t183.length co8, .int .i64 a0_4] (0, 0) _ rfl (by (with_reducible repeat (first | refine blk_drewN ?_ _ | refine blk_drew ?_ | refine blk_alloc ?_ _)); refine blk_put (cs := #[.int .i64 a0_0, .int .u32 a0_1, .bool a0_2, .slice Ao8 t183.length co8, .int .i64 0]) ?_ 4 _ rfl; (with_reducible repeat (first | refine blk_drewN ?_ _ | refine blk_drew ?_ | refine blk_alloc ?_ _)); refine blk_put (cs := #[.int .i64 a0_0, .int .u32 a0_1, .bool a0_2, .slice none 0 0, .int .i64 0]) ?_ 3 _ rfl; (with_reducible repeat (first | refine blk_drewN ?_ _ | refine blk_drew ?_ | refine blk_alloc ?_ _)); refine blk_put (cs := #[.int .i64 a0_0, .int .u32 a0_1, .bool false, .slice none 0 0, .int .i64 0]) ?_ 2 _ rfl; (with_reducible repeat (first | refine blk_drewN ?_ _ | refine blk_drew ?_ | refine blk_alloc ?_ _)); refine blk_put (cs := #[.int .i64 a0_0, .int .u32 0, .bool false, .slice none 0 0, .int .i64 0]) ?_ 1 _ rfl; (with_reducible repeat (first | refine blk_drewN ?_ _ | refine blk_drew ?_ | refine blk_alloc ?_ _)); refine blk_put (cs := #[.int .i64 0, .int .u32 0, .bool false, .slice none 0 0, .int .i64 0]) ?_ 0 _ rfl; (with_reducible repeat (first | refine blk_drewN ?_ _ | refine blk_drew ?_ | refine blk_alloc ?_ _)); refine blk_far ?_ NB182_181.out _; (with_reducible repeat (first | refine blk_drewN ?_ _ | refine blk_drew ?_ | refine blk_alloc ?_ _)); exact BK182.out) Try.underlying28 rfl (by kernel_rfl)) rfl ?_
  exact ⟨_, by first | rfl | (simp [errW_none, errW_some] <;> rfl) | (simp [*, errW_none, errW_some] <;> rfl), by (with_reducible repeat (first | apply Kd.R_alloc | apply Kd.R_drewN | apply Kd.R_drew)); exact Kd.R_mono (Kd.R_far (p := ⟨gb182, 4, none⟩) (Kd.R_far (p := ⟨gb182, 3, none⟩) (Kd.R_far (p := ⟨gb182, 2, none⟩) (Kd.R_far (p := ⟨gb182, 1, none⟩) (Kd.R_far (p := ⟨gb182, 0, none⟩) (Kd.R_far (p := ⟨gb181, 3, none⟩) (Kd.R_types (Kd.R_types HO185.out BK181.out (by decide)) BK182.out (by decide)) (fun _ hk => hk.1.2) (.slice Ao8 t183.length co8)) (fun _ hk => hk.2) (.int .i64 a0_0)) (fun _ hk => hk.2) (.int .u32 a0_1)) (fun _ hk => hk.2) (.bool a0_2)) (fun _ hk => hk.2) (.slice Ao8 t183.length co8)) (fun _ hk => hk.2) (.int .i64 a0_4)) (fun _ hk => trivial), by repeat (first | (with_reducible first | exact HB.out | apply below_alloc | apply pw_below_drewN | apply below_drew1 | refine below_set ?_ GE181.out | refine below_set ?_ GE182.out) | exact HB.out)⟩
def white_Mask.f (a0 : Int) (a1 : Int) : Option (Int × Int) := if (Go.bits .andNot .i64 (Go.bits .or .i64 a0 a1) 120) = 0 then (if (Go.bits .andNot .i64 a1 a0) = 0 then (some (a1, 0)) else (some (0, 93))) else (some (0, 22))
set_option maxHeartbeats 8000000 in
set_option maxRecDepth 100000 in
theorem white_Mask.calls (a0 : Int) (a1 : Int) (r1 : Int) (r2 : Int) (w : World) (h : white_Mask.f a0 a1 = some (r1, r2)) :
    Calls Try.prog 40 #[.int .i64 a0, .int .i64 a1] w fun e w' => e = .returned (.tuple #[.int .i64 r1, .int .i64 r2]) ∧ Drawn0 w w' := by
  have H : (if (Go.bits .andNot .i64 (Go.bits .or .i64 a0 a1) 120) = 0 then (if (Go.bits .andNot .i64 a1 a0) = 0 then (some (a1, 0)) else (some (0, 93))) else (some (0, 22))) = some (r1, r2) := h
  clear h
  by_cases c3 : (Go.bits .andNot .i64 (Go.bits .or .i64 a0 a1) 120) = 0
  · rw [if_pos c3] at H
    have c3b0 : ((Go.bits .andNot .i64 (Go.bits .or .i64 a0 a1) 120) == 0) = true := beq_iff_eq.mpr c3
    have c3b1 : ((Go.bits .andNot .i64 (Go.bits .or .i64 a0 a1) 120) != 0) = false := bne_eq_false_iff_eq.mpr c3
    clear c3
    by_cases c4 : (Go.bits .andNot .i64 a1 a0) = 0
    · rw [if_pos c4] at H
      have c4b0 : ((Go.bits .andNot .i64 a1 a0) == 0) = true := beq_iff_eq.mpr c4
      have c4b1 : ((Go.bits .andNot .i64 a1 a0) != 0) = false := bne_eq_false_iff_eq.mpr c4
      clear c4
      simp only [Option.some.injEq, Prod.mk.injEq] at H
      obtain ⟨rfl, rfl⟩ := H
      go_enter Try.func40, Try.ntmps40
      go_wp2
      go_ret2
      exact ⟨by first | rfl | (simp; done) | (simp [*]; done), by repeat (first | exact Drawn0.refl _ | apply Drawn0.step)⟩
    · rw [if_neg c4] at H
      have c4b0 : ((Go.bits .andNot .i64 a1 a0) == 0) = false := beq_eq_false_iff_ne.mpr c4
      have c4b1 : ((Go.bits .andNot .i64 a1 a0) != 0) = true := bne_iff_ne.mpr c4
      simp only [Option.some.injEq, Prod.mk.injEq] at H
      obtain ⟨rfl, rfl⟩ := H
      go_enter Try.func40, Try.ntmps40
      go_wp2
      go_ret2
      exact ⟨by first | rfl | (simp; done) | (simp [*]; done), by repeat (first | exact Drawn0.refl _ | apply Drawn0.step)⟩
  · rw [if_neg c3] at H
    have c3b0 : ((Go.bits .andNot .i64 (Go.bits .or .i64 a0 a1) 120) == 0) = false := beq_eq_false_iff_ne.mpr c3
    have c3b1 : ((Go.bits .andNot .i64 (Go.bits .or .i64 a0 a1) 120) != 0) = true := bne_iff_ne.mpr c3
    simp only [Option.some.injEq, Prod.mk.injEq] at H
    obtain ⟨rfl, rfl⟩ := H
    go_enter Try.func40, Try.ntmps40
    go_wp2
    go_ret2
    exact ⟨by first | rfl | (simp; done) | (simp [*]; done), by repeat (first | exact Drawn0.refl _ | apply Drawn0.step)⟩
def rights_Subset.f (a0 : Int) (a1 : Int) : Option (Bool) := some ((Go.bits .andNot .u32 a0 a1) == 0)
set_option maxHeartbeats 8000000 in
set_option maxRecDepth 100000 in
theorem rights_Subset.calls (a0 : Int) (a1 : Int) (r : Bool) (w : World) (h : rights_Subset.f a0 a1 = some r) :
    Calls Try.prog 37 #[.int .u32 a0, .int .u32 a1] w fun e w' => e = .returned (.bool r) ∧ Drawn0 w w' := by
  have H : (some ((Go.bits .andNot .u32 a0 a1) == 0)) = some r := h
  clear h
  obtain rfl := Option.some.inj H
  go_enter Try.func37, Try.ntmps37
  go_wp2
  go_ret
  exact ⟨by first | rfl | (simp; done) | (simp [*]; done), by repeat (first | exact Drawn0.refl _ | apply Drawn0.step)⟩
end Go.Proofs.Ytilfalpfanaanaa.PA

namespace Go.Proofs.Ytilfalpfanaanaa.PA
open Go.RowKit Go.Proofs.YtilfalpfanaanaaW.PrintWords Go.Proofs.YtilfalpfanaanaaW.PrintLast Go.Proofs.YtilfalpfanaanaaW.PrintMore Go.Proofs.Ytilfalpfanaanaa.Sx
theorem R_ext {w w' : World} {base g : Nat} {ok : Nat → Prop} {v : Value} {xs : List Int} {cs : Array Value} {T : TypeId} (h : Kd.R (Kd.int .i64) 3 w base ok v xs) (he : Ext (fun m => m = g) w w') (hb : w.heap[g]? = some (.cells cs T (0, 0))) (hT : ∀ q, q ∈ 3 :: (Kd.int .i64).E → q ≠ T) : Kd.R (Kd.int .i64) 3 w' base ok v xs :=
  Kd.R_mono (Kd.R_step (Kd.R_types h hb hT) (fun k hk h2 => he.block k h2 hk.2)) (fun _ h => h.1)
theorem row_set (qs : List (Option Nat)) (i : Nat) (x : Option Nat) : (qs.map ptrV).set i (ptrV x) = (qs.set i x).map ptrV := by rw [List.map_set]
theorem row_for {w : World} {base b : Nat} {ok : Nat → Prop} {v : Value} {xs : List Int} (h : Kd.R (Kd.int .i64) 3 w base (fun _ => True) v xs) (hb : b ≤ base) (hok : ∀ k, base ≤ k → ok k) : Kd.R (Kd.int .i64) 3 w b ok v xs :=
  Kd.R_lower (Kd.R_mono (Kd.R_bound h) (fun k hk => hok k hk.2.1)) hb
theorem tab_ne {w : World} {b g p : Nat} {ok : Nat → Prop} {qs : List (Option Nat)} {ss : List (Option Slot)} (h : TabAt w b ok g p qs ss) : g ≠ p := blk_ne h.tab h.row (by decide)
theorem tab_new {w : World} {b g p : Nat} {ok : Nat → Prop} {qs : List (Option Nat)} {ss : List (Option Slot)} (h : TabAt w b ok g p qs ss) {k : Nat} (hk : w.heap.size ≤ k) (j : Nat) : qs[j]? ≠ some (some k) := by
  intro e
  obtain ⟨_, _, s, _, A, c, hb, _⟩ := h.som j k e
  have := blk_lt hb
  omega
theorem tab_st {w : World} {b g p : Nat} {ok : Nat → Prop} {qs : List (Option Nat)} {ss : List (Option Slot)} (h : TabAt w b ok g p qs ss) (X : Nat → Prop) :
    St w X w [⟨g, false, .cells #[.slice (some ⟨p, 0, none⟩) qs.length qs.length] 67 (0, 0)⟩, ⟨p, false, .cells (qs.map ptrV).toArray 71 (0, 0)⟩] := by
  refine St.add (St.add (St.start w X) h.row (fun x hx => by cases hx)) h.tab (fun x hx => ?_)
  obtain rfl := List.mem_singleton.1 hx
  exact tab_ne h
theorem tab_lows {w : World} {b g p : Nat} {ok : Nat → Prop} {qs : List (Option Nat)} {ss : List (Option Slot)} (h : TabAt w b ok g p qs ss) {o1 o2 : Obj} : ∀ x ∈ [(⟨g, false, o1⟩ : Blk), ⟨p, false, o2⟩], x.b < w.heap.size := by
  intro x hx
  simp only [List.mem_cons, List.not_mem_nil, or_false] at hx
  rcases hx with rfl | rfl
  · exact blk_lt h.tab
  · exact blk_lt h.row
theorem tab_low {w : World} {b g p : Nat} {ok : Nat → Prop} {qs : List (Option Nat)} {ss : List (Option Slot)} (h : TabAt w b ok g p qs ss) : b ≤ w.heap.size := Nat.le_trans h.low.1 (Nat.le_of_lt (blk_lt h.tab))
theorem tab_st3 {w : World} {b g p : Nat} {ok : Nat → Prop} {qs : List (Option Nat)} {ss : List (Option Slot)} (h : TabAt w b ok g p qs ss) (X : Nat → Prop) {q : Nat} {cs : List Value} (hq : w.heap[q]? = some (.cells cs.toArray 28 (0, 0))) :
    St w X w [⟨g, false, .cells #[.slice (some ⟨p, 0, none⟩) qs.length qs.length] 67 (0, 0)⟩, ⟨p, false, .cells (qs.map ptrV).toArray 71 (0, 0)⟩, ⟨q, false, .cells cs.toArray 28 (0, 0)⟩] := by
  refine St.add (St.add (St.add (St.start w X) hq (fun x hx => by cases hx)) h.row (fun x hx => ?_)) h.tab (fun x hx => ?_)
  · obtain rfl := List.mem_singleton.1 hx
    exact blk_ne h.row hq (by decide)
  · rcases List.mem_cons.1 hx with rfl | hx
    · exact tab_ne h
    · obtain rfl := List.mem_singleton.1 hx
      exact blk_ne h.tab hq (by decide)
theorem Drawn0.below {w w' : World} (h : Drawn0 w w') : Below w.heap.size w w' := by
  obtain ⟨n, rfl⟩ := h.out
  exact pw_below_drewN (Below.refl _ _) n
theorem R_below {w w' : World} {base : Nat} {ok : Nat → Prop} {v : Value} {xs : List Int} (h : Kd.R (Kd.int .i64) 3 w base ok v xs) (hb : Below w.heap.size w w') : Kd.R (Kd.int .i64) 3 w' base ok v xs := Kd.R_step h (fun k _ h2 => hb.block k h2)
theorem slot_row {w w' : World} {base q : Nat} {ok : Nat → Prop} {v : Value} {xs : List Int} {cs : Array Value} (h : Kd.R (Kd.int .i64) 3 w base ok v xs) (hq : w.heap[q]? = some (.cells cs 28 (0, 0))) (he : Ext (fun m => m = q) w w') : Kd.R (Kd.int .i64) 3 w' base ok v xs :=
  R_ext h he hq (by decide)
def limS (s : Slot) (r : Int) : Slot := ⟨s.f0, r, if Go.bits .and .u32 r 268435456 = 0 then ⟨false, []⟩ else s.f2, if Go.bits .and .u32 r 512 = 0 then 0 else s.f3⟩
theorem append_int {w : World} {base g : Nat} {v : Value} {xs : List Int} {q : Int} (ty : TypeId) (h : Kd.R (Kd.int .i64) 3 w base (fun _ => True) v xs) (hg : w.heap[g]? = some (.cells #[.int .i64 q] 3 (0, 0))) (hl : (xs.length + 1) * 8 ≤ 140737488355328) (hb : base ≤ w.heap.size) :
    ∃ v' w', (Builtin.append_ #[24, 24] ty #[v, .slice (some ⟨g, 0, none⟩) 1 1]).run Try.prog w = .ok v' w' ∧ Kd.R (Kd.int .i64) 3 w' base (fun _ => True) v' (xs ++ [q]) ∧ Ext (fun m => v.ownBlock = some m) w w' := by
  have hi : (Try.prog.info? 3).map (fun i => (i.zero, i.size, i.bytes)) = some (some (.int .i64 0), 1, 8) := by kernel_rfl
  obtain ⟨i0, hi0, hz⟩ := Option.map_eq_some_iff.1 hi
  simp only [Prod.mk.injEq] at hz
  obtain ⟨hz0, hz1, hz2⟩ := hz
  obtain ⟨v', w', hr, ho, hgr, _⟩ := run_append_own (P := Try.prog) w base 24 ty 3 i0 (.int .i64 0) 1 8 Try.underlying24 hi0 hz0 hz1 hz2 rfl (by decide) v xs.length _ (Kd.own_of_R h) ⟨g, 0, none⟩ 1 1 [.int .i64 q] rfl (fun j u hj => by
    cases j with
    | zero => simp at hj; subst hj; simp [Addr.add, World.cell?, hg]
    | succ j => simp at hj) (by simp [Value.oneCell']) (by simp only [maxLen]; omega) hl hb
  refine ⟨v', w', hr, Kd.R_of_own (enc := Value.int .i64) (xs := xs ++ [q]) (by simpa [encs] using ho) (fun _ _ => trivial), ⟨hgr.os, hgr.tape, hgr.output, hgr.size, fun k hk hne => hgr.block k hk (fun e => hne e.symm)⟩⟩
theorem R_own_ge {w : World} {base : Nat} {ok : Nat → Prop} {v : Value} {xs : List Int} (h : Kd.R (Kd.int .i64) 3 w base ok v xs) {k : Nat} (hk : v.ownBlock = some k) : base ≤ k := own_base (Kd.own_of_R h) k hk
theorem St_append {w0 w w' : World} {σ : List Blk} {ok : Nat → Prop} {v : Value} {xs : List Int} (hS : St w0 no w σ) (h : Kd.R (Kd.int .i64) 3 w w0.heap.size ok v xs) (hσ : ∀ x ∈ σ, x.b < w0.heap.size) (he : Ext (fun m => v.ownBlock = some m) w w') : St w0 no w' σ :=
  hS.callX he (fun x hx e => by have := R_own_ge h e; have := hσ x hx; omega) (fun k hk e => by have := R_own_ge h e; omega)
def idxs (ss : List (Option Slot)) : Nat → List Int
  | 0 => []
  | k + 1 => match ss[k]? with | some (some _) => idxs ss k ++ [(k : Int)] | _ => idxs ss k
theorem idxs_le (ss : List (Option Slot)) : ∀ k, (idxs ss k).length ≤ k
  | 0 => Nat.le_refl _
  | k + 1 => by
    have := idxs_le ss k
    unfold idxs
    split
    · rw [List.length_append]; simp; omega
    · omega
theorem idxs_some (ss : List (Option Slot)) (k : Nat) {s : Slot} (h : ss[k]? = some (some s)) : idxs ss (k + 1) = idxs ss k ++ [((k : Nat) : Int)] := by
  show (match ss[k]? with | some (some _) => idxs ss k ++ [(k : Int)] | _ => idxs ss k) = _
  rw [h]
theorem idxs_none (ss : List (Option Slot)) (k : Nat) (h : ss[k]? = some none) : idxs ss (k + 1) = idxs ss k := by
  show (match ss[k]? with | some (some _) => idxs ss k ++ [(k : Int)] | _ => idxs ss k) = _
  rw [h]
noncomputable def tab_slot {w : World} {b g p : Nat} {ok : Nat → Prop} {qs : List (Option Nat)} {ss : List (Option Slot)} (h : TabAt w b ok g p qs ss) {k q : Nat} (hq : qs[k]? = some (some q)) : Slot := (h.som k q hq).2.2.choose
theorem tab_some {w : World} {b g p : Nat} {ok : Nat → Prop} {qs : List (Option Nat)} {ss : List (Option Slot)} (h : TabAt w b ok g p qs ss) {k q : Nat} (hq : qs[k]? = some (some q)) : ss[k]? = some (some (tab_slot h hq)) := (h.som k q hq).2.2.choose_spec.1
theorem tab_fresh {w : World} {b g p m : Nat} (hg : w.heap[g]? = some (.cells #[.slice (some ⟨p, 0, none⟩) m m] 67 (0, 0))) (hp : w.heap[p]? = some (.cells ((List.replicate m (none : Option Nat)).map ptrV).toArray 71 (0, 0))) (hm : 1 ≤ m ∧ m ≤ 64) (hbg : b ≤ g) (hbp : b ≤ p) :
    TabAt w b (fun j => b ≤ j) g p (List.replicate m none) (List.replicate m none) := by
  refine ⟨by rw [List.length_replicate]; exact hg, hp, by simp, by rw [List.length_replicate]; exact hm, ⟨hbg, hbp, hbg, hbp⟩, fun i hi => ?_, fun i q hq => ?_, fun i j q hq => ?_⟩
  · rw [List.getElem?_replicate] at hi ⊢
    split at hi
    · rename_i h; rw [if_pos h]
    · cases hi
  · rw [List.getElem?_replicate] at hq
    split at hq <;> cases hq
  · rw [List.getElem?_replicate] at hq
    split at hq <;> cases hq
theorem make_row (m : Nat) (hm : m ≤ 64) (w : World) : (Instr.makeSlice 65 (.int .i64 ((m : Nat) : Int)) (.int .i64 ((m : Nat) : Int))).run Try.prog w = .ok (.slice (some ⟨w.heap.size, 0, none⟩) m m) (w.alloc (.cells ((List.replicate m (none : Option Nat)).map ptrV).toArray 71)) := by
  have h := print_make_int (P := Try.prog) 65 71 (.pointer none) 8 Try.underlying65 infoPtr rfl (by decide) (m : Int) (by omega) (by omega)
  have hrow : (madeCells #[Value.pointer none] m) = ((List.replicate m (none : Option Nat)).map ptrV).toArray := by
    apply Array.toList_inj.1
    rw [toList_madeCells_one]
    simp [ptrV]
  have := h w
  simp only [Int.toNat_natCast] at this
  rw [hrow] at this
  exact this
theorem own_eq (s : Slot) (hl : s.f2.f1.length * 8 ≤ 140737488355328) : slots_own.f s.f0 s.f1 s.f2.f0 s.f2.f1 s.f3 = some (s.f0, s.f1, s.f2.f0, s.f2.f1, s.f3) := by unfold slots_own.f slices_Clone_int_int.f; rw [if_pos hl]; rfl
theorem st_pair {w w' : World} {b g p g2 p2 : Nat} {ok : Nat → Prop} {qs qs2 : List (Option Nat)} {ss ss2 : List (Option Slot)} (hS : St w no w' []) (h : TabAt w b ok g p qs ss) (h2 : TabAt w' w.heap.size (fun j => w.heap.size ≤ j) g2 p2 qs2 ss2) :
    St w no w' [⟨g2, true, .cells #[.slice (some ⟨p2, 0, none⟩) qs2.length qs2.length] 67 (0, 0)⟩, ⟨p2, true, .cells (qs2.map ptrV).toArray 71 (0, 0)⟩, ⟨p, false, .cells (qs.map ptrV).toArray 71 (0, 0)⟩] := by
  have hp := blk_lt h.row
  have h3 := h2.low.1
  have h4 := h2.low.2.1
  refine ⟨hS.ext, fun x hx => ?_, ?_, fun x hx ho => ?_⟩
  · simp only [List.mem_cons, List.not_mem_nil, or_false] at hx
    rcases hx with rfl | rfl | rfl
    · exact h2.tab
    · exact h2.row
    · exact (hS.ext.block p hp id).trans h.row
  · simp only [List.pairwise_cons, List.mem_cons, List.not_mem_nil, or_false, List.Pairwise.nil, and_true]
    refine ⟨fun x hx => ?_, fun x hx => ?_, fun x hx => hx.elim⟩
    · rcases hx with rfl | rfl
      · exact tab_ne h2
      · show g2 ≠ p; omega
    · subst hx; show p2 ≠ p; omega
  · simp only [List.mem_cons, List.not_mem_nil, or_false] at hx
    rcases hx with rfl | rfl | rfl
    · exact h3
    · exact h4
    · cases ho
theorem tab_put {w1 w2 w3 w4 : World} {b g p k x : Nat} {qs : List (Option Nat)} {ss : List (Option Slot)} {s : Slot} {A : Option Addr} {c : Nat} (h : TabAt w1 b (fun j => b ≤ j) g p qs ss) (hx0 : w1.heap.size = x) (B : Below w1.heap.size w1 w2) (E1 : Ext (fun m => m = x) w2 w3) (E2 : Ext (fun m => m = p) w3 w4) (hk : k < qs.length)
    (hp : w4.heap[p]? = some (.cells ((qs.set k (some x)).map ptrV).toArray 71 (0, 0))) (hx : w4.heap[x]? = some (.cells (slotC s A c) 28 (0, 0))) (hr : Kd.R (Kd.int .i64) 3 w4 b (fun j => b ≤ j) (.slice A s.f2.f1.length c) s.f2.f1) : TabAt w4 b (fun j => b ≤ j) g p (qs.set k (some x)) (ss.set k (some s)) := by
  have hb : b ≤ x := by have := tab_low h; omega
  have T2 := (h.apart (a := x) (by omega)).below B
  have T3 : TabAt w3 b (fun j => b ≤ j) g p qs ss := (T2.move (fun j hj hl => E1.block j hl hj.2)).mono (fun _ h => h.1)
  exact T3.at_row hk (some x) (some s) (fun j hj h1 h2 => E2.block j h1 h2) hp (.inr ⟨x, s, rfl, rfl, hb, hb, tab_new h (by omega), A, c, hx, hr⟩)
theorem clone_eq (ss : List (Option Slot)) (k m : Nat) (x : Option Slot) (h : ss[k]? = some x) (hm : ss.length = m) : (ss.take k ++ List.replicate (m - k) none).set k x = ss.take (k + 1) ++ List.replicate (m - (k + 1)) none := by
  obtain ⟨hk, hx⟩ := List.getElem?_eq_some_iff.1 h
  have h1 : List.replicate (m - k) (none : Option Slot) = none :: List.replicate (m - (k + 1)) none := by
    rw [show m - k = (m - (k + 1)) + 1 by omega, List.replicate_succ]
  rw [h1, List.take_succ_eq_append_getElem hk, hx, List.set_append, if_neg (by rw [List.length_take]; omega), List.length_take, Nat.min_eq_left (by omega), Nat.sub_self]
  simp
theorem clone_step {w' : World} {b g p k m : Nat} {ok : Nat → Prop} {qs' : List (Option Nat)} {ss : List (Option Slot)} {s : Slot} (hm : ss.length = m) (hs : ss[k]? = some (some s)) (h : TabAt w' b ok g p qs' ((ss.take k ++ List.replicate (m - k) none).set k (some s))) : TabAt w' b ok g p qs' (ss.take (k + 1) ++ List.replicate (m - (k + 1)) none) := by
  rw [clone_eq ss k m _ hs hm] at h; exact h
theorem clone_skip {w' : World} {b g p k m : Nat} {ok : Nat → Prop} {qs' : List (Option Nat)} {ss : List (Option Slot)} (hm : ss.length = m) (hs : ss[k]? = some none) (h : TabAt w' b ok g p qs' (ss.take k ++ List.replicate (m - k) none)) : TabAt w' b ok g p qs' (ss.take (k + 1) ++ List.replicate (m - (k + 1)) none) := by
  rw [← clone_eq ss k m _ hs hm]
  have hk : k < ss.length := (List.getElem?_eq_some_iff.1 hs).1
  have : (ss.take k ++ List.replicate (m - k) none).set k none = ss.take k ++ List.replicate (m - k) none := by
    apply List.ext_getElem?
    intro i
    rw [List.getElem?_set]
    split
    · rename_i e
      subst e
      rw [if_pos (by simp; omega), List.getElem?_append, if_neg (by rw [List.length_take]; omega), List.getElem?_replicate, if_pos (by rw [List.length_take]; omega)]
    · rfl
  rw [this]; exact h
section
variable {w w' : World} {base b g p x N : Nat} {ok : Nat → Prop} {v : Value} {xs : List Int} {qs : List (Option Nat)} {ss : List (Option Slot)}
theorem rb (h : Aside0 (Kd.R (Kd.int .i64) 3 w base ok v xs)) (hb : Below w.heap.size w w') : Aside0 (Kd.R (Kd.int .i64) 3 w' base ok v xs) := ⟨R_below h.out hb⟩
theorem rx {cs : Array Value} {T : TypeId} (h : Aside0 (Kd.R (Kd.int .i64) 3 w base ok v xs)) (he : Ext (fun m => m = x) w w') (hb : w.heap[x]? = some (.cells cs T (0, 0))) (hT : ∀ q, q ∈ 3 :: (Kd.int .i64).E → q ≠ T := by decide) : Aside0 (Kd.R (Kd.int .i64) 3 w' base ok v xs) := ⟨R_ext h.out he hb hT⟩
theorem vb {α : Type} {d : Kd α} {e : Nat} {l : List α} (h : Aside0 (Kd.V d e w base ok v l)) (hb : Below w.heap.size w w') : Aside0 (Kd.V d e w' base ok v l) := ⟨Kd.V_below h.out hb⟩
theorem tb (h : Aside0 (TabAt w b ok g p qs ss)) (hb : Below w.heap.size w w') : Aside0 (TabAt w' b ok g p qs ss) := ⟨h.out.below hb⟩
theorem zb (h : Aside0 (N ≤ w.heap.size)) (hb : Below w.heap.size w w') : Aside0 (N ≤ w'.heap.size) := ⟨Nat.le_trans h.out hb.size⟩
end
end Go.Proofs.Ytilfalpfanaanaa.PA

namespace Go.Proofs.Ytilfalpfanaanaa.Sx
open Go.RowKit
section
variable {P : Program} {n : Nat} {L : List (Nat × Value)} {w w' w0 : World} {x y : Operand} {ty : TypeId} {pos : String} {af : Array Edge} {gd : Option (Nat × Bool)} {dst : Option Tmp} {ad : Addr} {k : Nat} {v : Value} {vs : List Value}
theorem add_block (ad : Addr) (k : Nat) : (ad.add k).block = ad.block := by unfold Addr.add; split <;> rfl
theorem add_add' (ad : Addr) (k j : Nat) : (ad.add k).add j = ad.add (k + j) := by
  unfold Addr.add
  by_cases hk : k = 0
  · subst hk; simp
  · by_cases hj : j = 0
    · subst hj; simp [hk]
    · simp [hk, hj, Nat.add_assoc]
theorem cell_raw {a : Addr} {b : Nat} {ob : Obj} (hab : a.block = b) (h1 : w.heap[b]? = some ob) (h2 : w'.heap[b]? = some ob) : w'.cell? a = w.cell? a := by subst hab; simp [World.cell?, h1, h2]
theorem cells_raw {b : Nat} {ob : Obj} (hab : ad.block = b) (h1 : w.heap[b]? = some ob) (h2 : w'.heap[b]? = some ob) (h : ∀ j u, vs[j]? = some u → w.cell? (ad.add (k + j)) = some u) : ∀ j u, vs[j]? = some u → w'.cell? (ad.add (k + j)) = some u := fun j u hj =>
  (cell_raw ((add_block ad (k + j)).trans hab) h1 h2).trans (h j u hj)
theorem r_indexA {t : TypeId} {e s m c : Nat} {ki : IntKind} {q : Int} {j : Nat} (hu : elemOf P t = some (e, s)) (hx : ev n L x = .slice (some ad) m c) (hy : ev n L y = .int ki q) (h0 : 0 ≤ q) (h1 : q < m) (hj : q.toNat * s = j) :
    (execOp (ev n L) ⟨dst, .indexAddr t x y, ty, pos, af, gd⟩).run P w = .ok (.value (.pointer (some (ad.add j)))) w := by
  unfold elemOf at hu
  split at hu
  · rename_i e' he
    cases hinf : P.info? e' with
    | none => rw [hinf] at hu; cases hu
    | some inf =>
      rw [hinf] at hu
      injection hu with hu
      injection hu with h2 h3
      subst h3 hj
      simp only [execOp, hx, hy, Instr.indexAt, asIntOf, Sem.run_bind, run_underlying he, Result.andThen_ok, Sem.run_pure, Sem.run_ite, if_pos (⟨h0, h1⟩ : 0 ≤ q ∧ q < (m : Int)), sizeOf, typeInfo, run_program, hinf]
  · cases hu
theorem run_fieldAtA {s : TypeId} {f off : Nat} (h : fieldOf P s f = some off) (ad : Addr) (w : World) : (Instr.fieldAt s (.pointer (some ad)) f).run P w = .ok (.pointer (some (ad.add off))) w := by
  unfold fieldOf at h
  split at h
  · rename_i fs hfs
    split at h
    · rename_i fd hfd
      split at h
      · rename_i inf hinf
        split at h
        · cases h
        · rename_i hz
          injection h with h
          subst h
          simp only [Instr.fieldAt, Sem.run_bind, run_underlying hfs, Result.andThen_ok, hfd]
          simp only [fieldPlace, sizeOf, typeInfo, Instr.sureAddr, Sem.run_bind, Sem.run_pure, run_program, Result.andThen_ok, hinf, Sem.run_ite, if_neg hz]
      · cases h
    · cases h
  · cases h
theorem r_fieldA {s : TypeId} {f off j : Nat} (hf : fieldOf P s f = some off) (hx : ev n L x = .pointer (some (ad.add k))) (hj : k + off = j) : (execOp (ev n L) ⟨dst, .fieldAddr s x f, ty, pos, af, gd⟩).run P w = .ok (.value (.pointer (some (ad.add j)))) w := by
  subst hj
  rw [← add_add']
  simp [execOp, hx, run_fieldAtA hf]
theorem r_load1A {t : TypeId} (ht : szOf P t = some (false, 1)) (hx : ev n L x = .pointer (some (ad.add k))) (h : ∀ j u, vs[j]? = some u → w.cell? (ad.add (k + j)) = some u) (h0 : vs[0]? = some v) : (execOp (ev n L) ⟨dst, .load t x, ty, pos, af, gd⟩).run P w = .ok (.value v) w := by
  have hc := h 0 v h0
  rw [Nat.add_zero] at hc
  simp [execOp, hx, Instr.loadAt, Instr.sureAddr, loadVar, run_isAgg ht, hc]
theorem run_loadCellsA (w : World) (ad : Addr) : ∀ (vs : List Value) (i : Nat) (acc : Array Value), (∀ m (hm : m < vs.length), w.cell? (ad.add (i + m)) = some vs[m]) →
    (loadCellsFrom ad i vs.length acc).run P w = .ok (acc ++ vs.toArray) w
  | [], i, acc, _ => by simp [loadCellsFrom]
  | v :: vs, i, acc, h => by
    have h0 := h 0 (by simp)
    simp only [List.length_cons, loadCellsFrom, Sem.run_bind, run_load]
    rw [show w.cell? (ad.add i) = some v from h0]
    simp only [Result.andThen_ok]
    rw [run_loadCellsA w ad vs (i + 1) (acc.push v) (fun m hm => by
      have := h (m + 1) (by simpa using hm)
      rw [show i + 1 + m = i + (m + 1) by omega]
      simpa using this)]
    simp
theorem r_loadNA {t : TypeId} {m : Nat} (ht : szOf P t = some (true, m)) (hx : ev n L x = .pointer (some (ad.add k))) (hk : vs.length = m) (h : ∀ j u, vs[j]? = some u → w.cell? (ad.add (k + j)) = some u) :
    (execOp (ev n L) ⟨dst, .load t x, ty, pos, af, gd⟩).run P w = .ok (.value (.agg vs.toArray)) w := by
  subst hk
  have h' := run_loadCellsA (P := P) w (ad.add k) vs 0 #[] (fun j hj => by
    rw [add_add', Nat.zero_add]
    exact h j vs[j] (List.getElem?_eq_getElem hj))
  simp [execOp, hx, Instr.loadAt, Instr.sureAddr, loadVar, run_isAgg ht, run_sizeOf_ ht, loadCells, h']
end
end Go.Proofs.Ytilfalpfanaanaa.Sx

namespace Go.Proofs.Ytilfalpfanaanaa.Sx
open Go.RowKit
def lb (k m : Nat) : Array Bool := ((List.range k).map fun i => Nat.testBit m i).toArray
section
variable {P : Program} {l : List Oper} {Q : Exit → Act → World → Prop} {n fuel : Nat} {L : List (Nat × Value)} {w : World} {o : Oper} {S : World → Prop} {listed : Array Bool} {c : Code}
theorem dt (k m : Nat) {v : Value} {d : Tmp} (i : Nat) (hi : l[i]? = some o) (hd : o.dst = some d) (hw : Region.wanted o (yielded l.toArray (fr n L).tmps) = true) (hy : ∀ w, S w → (execOp (ev n L) o).run P w = .ok (.value v) w) (hS : S w)
    (h : AH P l Q S fuel (lb k m) n ((d, v) :: L) w) (hs : Region.noSelect l.toArray = true := by kernel_rfl) (hf : Region.free .any l.toArray listed i = true := by kernel_rfl) (hr : (Region.ready .any l.toArray listed).contains i = true := by kernel_rfl)
    (hQ : ∀ c a w, Q (.panic c) (a.put (some d) v) w → Q (.panic c) a w := by first | exact fun _ _ _ h => h | exact fun _ _ _ h => absurd h.1 (by simp)) (hl : listed.setIfInBounds i true = lb k m := by kernel_rfl) : AH P l Q S (fuel + 1) listed n L w :=
  d_take i hi hs hf hr hd hQ hw hy hS hl h
theorem d1 (k m i : Nat) (hi : l[i]? = some o) (hw : Region.wanted o (yielded l.toArray (fr n L).tmps) = true)
    (h : OW P o n L w (fun L' w' => S w' ∧ AH P l Q S fuel (lb k m) n L' w') Q) (hr : Region.ready .any l.toArray listed = [i] := by kernel_rfl) (hl : listed.setIfInBounds i true = lb k m := by kernel_rfl) : AH P l Q S (fuel + 1) listed n L w :=
  d_one i hi hr hw hl h
theorem s_cut (e0 : Exit) (J : List (Nat × Value) → World → Prop) (h1 : CW P c (fun e a w' => e = e0 ∧ ∃ L', a = fr n L' ∧ J L' w') n L w) (h2 : ∀ L' w', J L' w' → XW Q e0 n L' w') : CW P c Q n L w :=
  ⟨Code.wp_mono (fun e a w' hh => by obtain ⟨rfl, L', rfl, hj⟩ := hh; exact (h2 L' w' hj).out) h1.out⟩
theorem x_cut {e0 : Exit} {J : List (Nat × Value) → World → Prop} (M : List (Nat × Value)) (hM : agree L M) (h : J (M ++ L) w) : XW (fun e a w' => e = e0 ∧ ∃ L', a = fr n L' ∧ J L' w') e0 n L w := ⟨⟨rfl, M ++ L, fr_front M hM, h⟩⟩
end
end Go.Proofs.Ytilfalpfanaanaa.Sx

namespace Go.Proofs.Ytilfalpfanaanaa.Sx
open Go.RowKit
theorem bol_4 : Try.prog.underlying 4 = some .bool := by kernel_rfl
theorem elm_24 : elemOf Try.prog 24 = some (3, 1) := by kernel_rfl
theorem elm_46 : elemOf Try.prog 46 = some (30, 8) := by kernel_rfl
theorem elm_47 : elemOf Try.prog 47 = some (28, 5) := by kernel_rfl
theorem elm_65 : elemOf Try.prog 65 = some (71, 1) := by kernel_rfl
theorem fld_26_1 : fieldOf Try.prog 26 1 = some 1 := by kernel_rfl
theorem fld_28_0 : fieldOf Try.prog 28 0 = some 0 := by kernel_rfl
theorem fld_28_1 : fieldOf Try.prog 28 1 = some 1 := by kernel_rfl
theorem fld_28_2 : fieldOf Try.prog 28 2 = some 2 := by kernel_rfl
theorem fld_28_3 : fieldOf Try.prog 28 3 = some 4 := by kernel_rfl
theorem fld_30_0 : fieldOf Try.prog 30 0 = some 0 := by kernel_rfl
theorem fld_30_1 : fieldOf Try.prog 30 1 = some 1 := by kernel_rfl
theorem fld_30_2 : fieldOf Try.prog 30 2 = some 2 := by kernel_rfl
theorem fld_30_3 : fieldOf Try.prog 30 3 = some 7 := by kernel_rfl
theorem fld_67_0 : fieldOf Try.prog 67 0 = some 0 := by kernel_rfl
theorem mix : Try.prog.follows .mixedOrders = true := by kernel_rfl
theorem ptr_31 : ptrOf Try.prog 31 = true := by kernel_rfl
theorem ptr_71 : ptrOf Try.prog 71 = true := by kernel_rfl
theorem sz_23 : szOf Try.prog 23 = some (false, 1) := by kernel_rfl
theorem sz_24 : szOf Try.prog 24 = some (false, 1) := by kernel_rfl
theorem sz_26 : szOf Try.prog 26 = some (true, 2) := by kernel_rfl
theorem sz_28 : szOf Try.prog 28 = some (true, 5) := by kernel_rfl
theorem sz_3 : szOf Try.prog 3 = some (false, 1) := by kernel_rfl
theorem sz_30 : szOf Try.prog 30 = some (true, 8) := by kernel_rfl
theorem sz_65 : szOf Try.prog 65 = some (false, 1) := by kernel_rfl
theorem sz_71 : szOf Try.prog 71 = some (false, 1) := by kernel_rfl
theorem zro_26 : zeroOf Try.prog 26 = some [.bool false, .slice none 0 0] := by kernel_rfl
theorem zro_28 : zeroOf Try.prog 28 = some [.int .i64 0, .int .u32 0, .bool false, .slice none 0 0, .int .i64 0] := by kernel_rfl
theorem zro_30 : zeroOf Try.prog 30 = some [.int .i64 0, .int .i64 0, .int .i64 0, .int .u32 0, .bool false, .slice none 0 0, .int .i64 0, .slice none 0 0] := by kernel_rfl
end Go.Proofs.Ytilfalpfanaanaa.Sx

namespace Go.Proofs.Ytilfalpfanaanaa.PA
open Go.RowKit Go.Proofs.YtilfalpfanaanaaW.PrintWords Go.Proofs.YtilfalpfanaanaaW.PrintLast Go.Proofs.YtilfalpfanaanaaW.PrintMore Go.Proofs.Ytilfalpfanaanaa.Sx
set_option maxHeartbeats 8000000 in
set_option maxRecDepth 100000 in
theorem Put_ok {w : World} {b g p : Nat} {ok : Nat → Prop} {qs : List (Option Nat)} {ss : List (Option Slot)} (h : TabAt w b ok g p qs ss) (hok : ∀ k, w.heap.size ≤ k → ok k) (fd : Int) (h0 : 0 ≤ fd) (h1 : fd < (qs.length : Int))
  (hn : nfree (qs.drop fd.toNat) < qs.length - fd.toNat) (s : Slot) (A : Option Addr) (c : Nat) (hr : Kd.C (Kd.int .i64) w A s.f2.f1.length s.f2.f1) (hc : s.f2.f1.length ≤ c) (k : Nat) (hcan : slots_can.f k s.f0 s.f1 s.f2.f0 s.f2.f1 s.f3 = some true) (hl : s.f2.f1.length * 8 ≤ 140737488355328) :
  Calls Try.prog 11 #[.pointer (some ⟨g, 0, none⟩), .int .i64 fd, .agg #[.int .i64 s.f0, .int .u32 s.f1, .bool s.f2.f0, .slice A s.f2.f1.length c, .int .i64 s.f3]] w fun e w' => e = .returned (.tuple #[.int .i64 (fd + nfree (qs.drop fd.toNat)), .int .i64 0]) ∧ (∃ q, TabAt w' b ok g p (qs.set (fd + nfree (qs.drop fd.toNat)).toNat (some q)) (ss.set (fd + nfree (qs.drop fd.toNat)).toNat (some s))) ∧ Ext (fun k => k = p) w w' := by
 have HT := Aside0.mk h
 have HOK := Aside0.mk hok
 have HR := Aside0.mk hr
 have HC := Aside0.mk hc
 have HCan := Aside0.mk hcan
 have HOwn := Aside0.mk (show slots_own.f s.f0 s.f1 s.f2.f0 s.f2.f1 s.f3 = some (s.f0, s.f1, s.f2.f0, s.f2.f1, s.f3) by unfold slots_own.f slices_Clone_int_int.f; rw [if_pos hl]; rfl)
 obtain ⟨z, hz⟩ : ∃ z : Int, z = fd + nfree (qs.drop fd.toNat) := ⟨_, rfl⟩
 have hz0 : 0 ≤ z := by omega
 have hz1 : z < (qs.length : Int) := by omega
 have hfr : freeR qs fd = (z, 0) := by unfold freeR; rw [if_pos hn, hz]
 have HFree := Aside0.mk (show ∀ w', Below w.heap.size w w' → Calls Try.prog 34 #[.pointer (some ⟨g, 0, none⟩), .int .i64 fd] w' fun e w'' => e = .returned (.tuple #[.int .i64 z, .int .i64 0]) ∧ w'' = w' from fun w' hb => by
   have := free_in (h.below hb) fd h0 h1
   rw [hfr] at this
   exact this)
 rw [← hz]
 have HM := Aside0.mk (show z.toNat < qs.length by omega)
 have S0 := tab_st h (fun k => k = p)
 have HB := Aside0.mk (Below.refl w.heap.size w)
 clear hcan hl hn hz hfr
 refine s_enter (n := 31) (L := [(0, .pointer (some ⟨g, 0, none⟩)), (1, .int .i64 fd), (2, .agg #[.int .i64 s.f0, .int .u32 s.f1, .bool s.f2.f0, .slice A s.f2.f1.length c, .int .i64 s.f3])]) Try.func11 rfl rfl rfl rfl ?_
 refine s_seq ?_
 refine s_region ?_
 refine qo ?_
 refine e_box (cs := [.int .i64 s.f0, .int .u32 s.f1, .bool s.f2.f0, .slice A s.f2.f1.length c, .int .i64 s.f3]) S0 rfl rfl ?_
 intro g1 w2 hg1 S3 B4
 have HBn := Aside0.mk (below_step HB.out B4)
 clear HB
 have HB := HBn
 clear HBn
 refine qv (v := .int .i64 0) (r_assign rfl) ?_
 refine qv (v := .int .i64 0) (r_assign rfl) ?_
 refine q_nil ?_
 refine x_seq ?_
 refine s_seq ?_
 refine s_seq ?_
 refine s_region ?_
 refine qv (v := .agg #[.int .i64 s.f0, .int .u32 s.f1, .bool s.f2.f0, .slice A s.f2.f1.length c, .int .i64 s.f3]) (r_loadN (vs := [.int .i64 s.f0, .int .u32 s.f1, .bool s.f2.f0, .slice A s.f2.f1.length c, .int .i64 s.f3]) sz_28 rfl (S3.blk 0 rfl) rfl rfl) ?_
 refine qo ?_
 refine e_call (args := [.agg #[.int .i64 s.f0, .int .u32 s.f1, .bool s.f2.f0, .slice A s.f2.f1.length c, .int .i64 s.f3]]) Try.func33 (by kernel_rfl) rfl rfl ?_
 refine (slots_can.calls k _ _ _ _ _ _ _ true _ (Kd.C_below HR.out HB.out) HC.out HCan.out).mono ?_
 rintro e w5 ⟨rfl, hb⟩
 refine ⟨_, rfl, ?_⟩
 have B6 := hb
 have S7 := S3.call B6
 have HBn := Aside0.mk (below_step HB.out B6)
 clear HB
 have HB := HBn
 clear HBn
 refine qv (v := .bool false) (r_not rfl rfl) ?_
 refine q_nil ?_
 refine x_seq ?_
 refine s_false rfl ?_
 refine s_skip ?_
 refine x_seq ?_
 refine s_seq ?_
 refine s_region ?_
 refine qv (v := .pointer (some ⟨g, 0, none⟩)) (r_move rfl) ?_
 refine qv (v := .int .i64 fd) (r_move rfl) ?_
 refine qo ?_
 refine e_call (args := [.pointer (some ⟨g, 0, none⟩), .int .i64 fd]) Try.func34 (by kernel_rfl) rfl rfl ?_
 refine (HFree.out _ HB.out).mono ?_
 rintro e w8 ⟨rfl, rfl⟩
 refine ⟨_, rfl, ?_⟩
 refine qv (v := .tuple #[.int .i64 z, .int .i64 0]) (r_move rfl) ?_
 refine qv (v := .int .i64 z) (r_extract rfl rfl) ?_
 refine qv (v := .int .i64 0) (r_extract rfl rfl) ?_
 refine qv (v := .int .i64 z) (r_assign rfl) ?_
 refine qv (v := .int .i64 0) (r_assign rfl) ?_
 refine q_nil ?_
 refine x_seq ?_
 refine s_seq ?_
 refine s_seq ?_
 refine s_region ?_
 refine qv (v := .int .i64 0) (r_move rfl) ?_
 refine qv (v := .bool false) (r_neq rfl rfl (bne_f (by omega))) ?_
 refine q_nil ?_
 refine x_seq ?_
 refine s_false rfl ?_
 refine s_skip ?_
 refine x_seq ?_
 refine s_seq ?_
 refine s_region ?_
 refine qv (v := .agg #[.int .i64 s.f0, .int .u32 s.f1, .bool s.f2.f0, .slice A s.f2.f1.length c, .int .i64 s.f3]) (r_loadN (vs := [.int .i64 s.f0, .int .u32 s.f1, .bool s.f2.f0, .slice A s.f2.f1.length c, .int .i64 s.f3]) sz_28 rfl (S7.blk 0 rfl) rfl rfl) ?_
 refine qo ?_
 refine e_call (args := [.agg #[.int .i64 s.f0, .int .u32 s.f1, .bool s.f2.f0, .slice A s.f2.f1.length c, .int .i64 s.f3]]) Try.func35 (by kernel_rfl) rfl rfl ?_
 have HBo := HB
 refine (slots_own.calls _ _ _ _ _ _ _ _ _ _ _ _ _ (Kd.C_below HR.out HB.out) HC.out HOwn.out).mono ?_
 rintro e w11 ⟨v, rfl, ho, hb⟩
 obtain ⟨Av, cv, rfl⟩ := Kd.R_slice ho
 refine ⟨_, rfl, ?_⟩
 have B12 := hb
 have S13 := S7.call B12
 have HBn := Aside0.mk (below_step HB.out B12)
 clear HB
 have HB := HBn
 clear HBn
 have HO := Aside0.mk (row_for (b := b) (ok := ok) (Kd.R_lower ho (Nat.le_refl _)) (Nat.le_trans (tab_low HT.out) (HBo.out.size)) (fun k hk => HOK.out k (Nat.le_trans HBo.out.size hk)))
 refine qo ?_
 refine e_store (vs := [.int .i64 s.f0, .int .u32 s.f1, .bool s.f2.f0, .slice Av s.f2.f1.length cv, .int .i64 s.f3]) (cs' := [.int .i64 s.f0, .int .u32 s.f1, .bool s.f2.f0, .slice Av s.f2.f1.length cv, .int .i64 s.f3]) S13 rfl rfl rfl rfl sz_28 0 rfl (.inl rfl) rfl rfl rfl ?_
 intro w14 S15 E16
 refine q_nil ?_
 refine x_seq ?_
 refine s_seq ?_
 refine s_region ?_
 refine qv (v := .pointer (some ⟨g, 0, none⟩)) (r_move rfl) ?_
 refine qv (v := .pointer (some ⟨g, 0, none⟩)) (r_nilCheck rfl) ?_
 refine qv (v := .pointer (some ⟨g, 0, none⟩)) (r_field fld_67_0 rfl rfl) ?_
 refine qv (v := .slice (some ⟨p, 0, none⟩) qs.length qs.length) (r_load1 sz_65 rfl (S15.cell 1 rfl rfl)) ?_
 refine qv (v := .int .i64 z) (r_move rfl) ?_
 refine qv (v := .pointer (some ⟨p, z.toNat, none⟩)) (r_index elm_65 rfl rfl (by omega) (by omega) (by omega)) ?_
 refine qo ?_
 refine e_storeAt (cs := qs.map ptrV) (σ' := [⟨g1, true, .cells #[.int .i64 s.f0, .int .u32 s.f1, .bool s.f2.f0, .slice Av s.f2.f1.length cv, .int .i64 s.f3] 28 (0, 0)⟩, ⟨g, false, .cells #[.slice (some ⟨p, 0, none⟩) qs.length qs.length] 67 (0, 0)⟩, ⟨p, false, (.cells ((qs.set z.toNat (some g1)).map ptrV).toArray 71 (0, 0))⟩]) S15 rfl rfl rfl rfl sz_71 2 rfl (.inr rfl) (by simp; omega) (row_set qs z.toNat (some g1)) rfl ?_
 intro w17 S18 E19
 refine q_nil ?_
 refine x_seq ?_
 refine s_seq ?_
 refine s_region ?_
 refine qv (v := .int .i64 z) (r_move rfl) ?_
 refine qv (v := .int .i64 z) (r_assign rfl) ?_
 refine qv (v := .int .i64 0) (r_assign rfl) ?_
 refine q_nil ?_
 refine x_seq ?_
 refine s_ret ?_
 refine t_ret2 (v := .int .i64 z) (v' := .int .i64 0) rfl rfl rfl ?_
 have hbig : w.heap.size ≤ g1 := S18.own _ (List.mem_of_getElem? (i := 0) rfl) rfl
 refine ⟨rfl, ⟨g1, HT.out.at_row HM.out (some g1) (some s) (fun k hk h1 h2 => S18.ext.block k h1 h2) (S18.blk 2 rfl) (.inr ⟨g1, s, rfl, rfl, by have := tab_low HT.out; omega, HOK.out _ hbig, tab_new HT.out hbig, Av, cv, S18.blk 0 rfl, ?_⟩)⟩, S18.ext⟩
 exact R_ext (R_ext HO.out E16 (S13.blk 0 rfl) (by decide)) E19 (S15.blk 2 rfl) (by decide)
set_option maxHeartbeats 8000000 in
set_option maxRecDepth 100000 in
theorem Put_bad {w : World} (x : Option Addr) (fd : Int) (s : Slot) (A : Option Addr) (c : Nat) (hr : Kd.C (Kd.int .i64) w A s.f2.f1.length s.f2.f1) (hc : s.f2.f1.length ≤ c) (k : Nat) (hcan : slots_can.f k s.f0 s.f1 s.f2.f0 s.f2.f1 s.f3 = some false) :
  Calls Try.prog 11 #[.pointer x, .int .i64 fd, .agg #[.int .i64 s.f0, .int .u32 s.f1, .bool s.f2.f0, .slice A s.f2.f1.length c, .int .i64 s.f3]] w fun e w' => e = .returned (.tuple #[.int .i64 0, .int .i64 22]) ∧ Below w.heap.size w w' := by
 have HR := Aside0.mk hr
 have HC := Aside0.mk hc
 have HCan := Aside0.mk hcan
 have HB := Aside0.mk (Below.refl w.heap.size w)
 clear hcan
 refine s_enter (n := 31) (L := [(0, .pointer x), (1, .int .i64 fd), (2, .agg #[.int .i64 s.f0, .int .u32 s.f1, .bool s.f2.f0, .slice A s.f2.f1.length c, .int .i64 s.f3])]) Try.func11 rfl rfl rfl rfl ?_
 have S1 := St.start w no
 refine s_seq ?_
 refine s_region ?_
 refine qo ?_
 refine e_box (cs := [.int .i64 s.f0, .int .u32 s.f1, .bool s.f2.f0, .slice A s.f2.f1.length c, .int .i64 s.f3]) S1 rfl rfl ?_
 intro g2 w3 hg2 S4 B5
 have HBn := Aside0.mk (below_step HB.out B5)
 clear HB
 have HB := HBn
 clear HBn
 refine qv (v := .int .i64 0) (r_assign rfl) ?_
 refine qv (v := .int .i64 0) (r_assign rfl) ?_
 refine q_nil ?_
 refine x_seq ?_
 refine s_seq ?_
 refine s_seq ?_
 refine s_region ?_
 refine qv (v := .agg #[.int .i64 s.f0, .int .u32 s.f1, .bool s.f2.f0, .slice A s.f2.f1.length c, .int .i64 s.f3]) (r_loadN (vs := [.int .i64 s.f0, .int .u32 s.f1, .bool s.f2.f0, .slice A s.f2.f1.length c, .int .i64 s.f3]) sz_28 rfl (S4.blk 0 rfl) rfl rfl) ?_
 refine qo ?_
 refine e_call (args := [.agg #[.int .i64 s.f0, .int .u32 s.f1, .bool s.f2.f0, .slice A s.f2.f1.length c, .int .i64 s.f3]]) Try.func33 (by kernel_rfl) rfl rfl ?_
 refine (slots_can.calls k _ _ _ _ _ _ _ false _ (Kd.C_below HR.out HB.out) HC.out HCan.out).mono ?_
 rintro e w6 ⟨rfl, hb⟩
 refine ⟨_, rfl, ?_⟩
 have B7 := hb
 have S8 := S4.call B7
 have HBn := Aside0.mk (below_step HB.out B7)
 clear HB
 have HB := HBn
 clear HBn
 refine qv (v := .bool true) (r_not rfl rfl) ?_
 refine q_nil ?_
 refine x_seq ?_
 refine s_true rfl ?_
 refine s_seq ?_
 refine s_region ?_
 refine qv (v := .int .i64 0) (r_assign rfl) ?_
 refine qv (v := .int .i64 22) (r_assign rfl) ?_
 refine q_nil ?_
 refine x_seq ?_
 refine s_ret ?_
 refine x_seq_ret ?_
 refine t_ret2 (v := .int .i64 0) (v' := .int .i64 22) rfl rfl rfl ?_
 exact ⟨rfl, S8.ext.below⟩
set_option maxHeartbeats 8000000 in
set_option maxRecDepth 100000 in
theorem Put_err {w : World} (x : Option Addr) (fd er : Int) (he : er ≠ 0) (s : Slot) (A : Option Addr) (c : Nat) (hr : Kd.C (Kd.int .i64) w A s.f2.f1.length s.f2.f1) (hc : s.f2.f1.length ≤ c) (k : Nat) (hcan : slots_can.f k s.f0 s.f1 s.f2.f0 s.f2.f1 s.f3 = some true)
  (hF : ∀ w', Below w.heap.size w w' → Calls Try.prog 34 #[.pointer x, .int .i64 fd] w' fun e w'' => e = .returned (.tuple #[.int .i64 0, .int .i64 er]) ∧ w'' = w') :
  Calls Try.prog 11 #[.pointer x, .int .i64 fd, .agg #[.int .i64 s.f0, .int .u32 s.f1, .bool s.f2.f0, .slice A s.f2.f1.length c, .int .i64 s.f3]] w fun e w' => e = .returned (.tuple #[.int .i64 0, .int .i64 er]) ∧ Below w.heap.size w w' := by
 have HR := Aside0.mk hr
 have HC := Aside0.mk hc
 have HCan := Aside0.mk hcan
 have HF := Aside0.mk hF
 have HB := Aside0.mk (Below.refl w.heap.size w)
 clear hcan hF
 refine s_enter (n := 31) (L := [(0, .pointer x), (1, .int .i64 fd), (2, .agg #[.int .i64 s.f0, .int .u32 s.f1, .bool s.f2.f0, .slice A s.f2.f1.length c, .int .i64 s.f3])]) Try.func11 rfl rfl rfl rfl ?_
 have S1 := St.start w no
 refine s_seq ?_
 refine s_region ?_
 refine qo ?_
 refine e_box (cs := [.int .i64 s.f0, .int .u32 s.f1, .bool s.f2.f0, .slice A s.f2.f1.length c, .int .i64 s.f3]) S1 rfl rfl ?_
 intro g2 w3 hg2 S4 B5
 have HBn := Aside0.mk (below_step HB.out B5)
 clear HB
 have HB := HBn
 clear HBn
 refine qv (v := .int .i64 0) (r_assign rfl) ?_
 refine qv (v := .int .i64 0) (r_assign rfl) ?_
 refine q_nil ?_
 refine x_seq ?_
 refine s_seq ?_
 refine s_seq ?_
 refine s_region ?_
 refine qv (v := .agg #[.int .i64 s.f0, .int .u32 s.f1, .bool s.f2.f0, .slice A s.f2.f1.length c, .int .i64 s.f3]) (r_loadN (vs := [.int .i64 s.f0, .int .u32 s.f1, .bool s.f2.f0, .slice A s.f2.f1.length c, .int .i64 s.f3]) sz_28 rfl (S4.blk 0 rfl) rfl rfl) ?_
 refine qo ?_
 refine e_call (args := [.agg #[.int .i64 s.f0, .int .u32 s.f1, .bool s.f2.f0, .slice A s.f2.f1.length c, .int .i64 s.f3]]) Try.func33 (by kernel_rfl) rfl rfl ?_
 refine (slots_can.calls k _ _ _ _ _ _ _ true _ (Kd.C_below HR.out HB.out) HC.out HCan.out).mono ?_
 rintro e w6 ⟨rfl, hb⟩
 refine ⟨_, rfl, ?_⟩
 have B7 := hb
 have S8 := S4.call B7
 have HBn := Aside0.mk (below_step HB.out B7)
 clear HB
 have HB := HBn
 clear HBn
 refine qv (v := .bool false) (r_not rfl rfl) ?_
 refine q_nil ?_
 refine x_seq ?_
 refine s_false rfl ?_
 refine s_skip ?_
 refine x_seq ?_
 refine s_seq ?_
 refine s_region ?_
 refine qv (v := .pointer x) (r_move rfl) ?_
 refine qv (v := .int .i64 fd) (r_move rfl) ?_
 refine qo ?_
 refine e_call (args := [.pointer x, .int .i64 fd]) Try.func34 (by kernel_rfl) rfl rfl ?_
 refine (HF.out _ HB.out).mono ?_
 rintro e w9 ⟨rfl, rfl⟩
 refine ⟨_, rfl, ?_⟩
 refine qv (v := .tuple #[.int .i64 0, .int .i64 er]) (r_move rfl) ?_
 refine qv (v := .int .i64 0) (r_extract rfl rfl) ?_
 refine qv (v := .int .i64 er) (r_extract rfl rfl) ?_
 refine qv (v := .int .i64 0) (r_assign rfl) ?_
 refine qv (v := .int .i64 er) (r_assign rfl) ?_
 refine q_nil ?_
 refine x_seq ?_
 refine s_seq ?_
 refine s_seq ?_
 refine s_region ?_
 refine qv (v := .int .i64 er) (r_move rfl) ?_
 refine qv (v := .bool true) (r_neq rfl rfl (bne_t (he))) ?_
 refine q_nil ?_
 refine x_seq ?_
 refine s_true rfl ?_
 refine s_seq ?_
 refine s_region ?_
 refine qv (v := .int .i64 er) (r_move rfl) ?_
 refine qv (v := .int .i64 0) (r_assign rfl) ?_
 refine qv (v := .int .i64 er) (r_assign rfl) ?_
 refine q_nil ?_
 refine x_seq ?_
 refine s_ret ?_
 refine x_seq_ret ?_
 refine t_ret2 (v := .int .i64 0) (v' := .int .i64 er) rfl rfl rfl ?_
 exact ⟨rfl, S8.ext.below⟩
end Go.Proofs.Ytilfalpfanaanaa.PA

namespace Go.Proofs.Ytilfalpfanaanaa.PA
open Go.RowKit Go.Proofs.YtilfalpfanaanaaW.PrintWords Go.Proofs.YtilfalpfanaanaaW.PrintLast Go.Proofs.YtilfalpfanaanaaW.PrintMore Go.Proofs.Ytilfalpfanaanaa.Sx
set_option maxHeartbeats 8000000 in
set_option maxRecDepth 100000 in
theorem Set_bad {w : World} (g : Nat) (fd : Int) (s : Slot) (A : Option Addr) (c : Nat) (hr : Kd.C (Kd.int .i64) w A s.f2.f1.length s.f2.f1) (hc : s.f2.f1.length ≤ c) (k : Nat) (hcan : slots_can.f k s.f0 s.f1 s.f2.f0 s.f2.f1 s.f3 = some false) :
  Calls Try.prog 29 #[.pointer (some ⟨g, 0, none⟩), .int .i64 fd, .agg #[.int .i64 s.f0, .int .u32 s.f1, .bool s.f2.f0, .slice A s.f2.f1.length c, .int .i64 s.f3]] w fun e w' => e = .returned (.tuple #[.agg #[.int .i64 0, .int .u32 0, .bool false, .slice none 0 0, .int .i64 0], .bool false, .int .i64 22]) ∧ Below w.heap.size w w' := by
 have HR := Aside0.mk hr
 have HC := Aside0.mk hc
 have HCan := Aside0.mk hcan
 have HB := Aside0.mk (Below.refl w.heap.size w)
 clear hcan
 refine s_enter (n := 49) (L := [(0, .pointer (some ⟨g, 0, none⟩)), (1, .int .i64 fd), (2, .agg #[.int .i64 s.f0, .int .u32 s.f1, .bool s.f2.f0, .slice A s.f2.f1.length c, .int .i64 s.f3])]) Try.func29 rfl rfl rfl rfl ?_
 have S1 := St.start w no
 refine s_seq ?_
 refine s_region ?_
 refine qo ?_
 refine e_box (cs := [.int .i64 s.f0, .int .u32 s.f1, .bool s.f2.f0, .slice A s.f2.f1.length c, .int .i64 s.f3]) S1 rfl rfl ?_
 intro g2 w3 hg2 S4 B5
 have HBn := Aside0.mk (below_step HB.out B5)
 clear HB
 have HB := HBn
 clear HBn
 refine qo ?_
 refine e_alloc S4 zro_28 ?_
 intro g6 w7 hg6 S8 B9
 have HBn := Aside0.mk (below_step HB.out B9)
 clear HB
 have HB := HBn
 clear HBn
 refine qv (v := .bool false) (r_assign rfl) ?_
 refine qv (v := .int .i64 0) (r_assign rfl) ?_
 refine q_nil ?_
 refine x_seq ?_
 refine s_seq ?_
 refine s_block ?_
 refine s_seq ?_
 refine s_seq ?_
 refine s_region ?_
 refine qv (v := .pointer (some ⟨g, 0, none⟩)) (r_move rfl) ?_
 refine qv (v := .bool false) (r_peql ptr_31 rfl rfl rfl) ?_
 refine qv (v := .bool false) (r_assign rfl) ?_
 refine q_nil ?_
 refine x_seq ?_
 refine s_false rfl ?_
 refine s_region ?_
 refine qv (v := .agg #[.int .i64 s.f0, .int .u32 s.f1, .bool s.f2.f0, .slice A s.f2.f1.length c, .int .i64 s.f3]) (r_loadN (vs := [.int .i64 s.f0, .int .u32 s.f1, .bool s.f2.f0, .slice A s.f2.f1.length c, .int .i64 s.f3]) sz_28 rfl (S8.blk 1 rfl) rfl rfl) ?_
 refine qo ?_
 refine e_call (args := [.agg #[.int .i64 s.f0, .int .u32 s.f1, .bool s.f2.f0, .slice A s.f2.f1.length c, .int .i64 s.f3]]) Try.func33 (by kernel_rfl) rfl rfl ?_
 refine (slots_can.calls k _ _ _ _ _ _ _ false _ (Kd.C_below HR.out HB.out) HC.out HCan.out).mono ?_
 rintro e w10 ⟨rfl, hb⟩
 refine ⟨_, rfl, ?_⟩
 have B11 := hb
 have S12 := S8.call B11
 have HBn := Aside0.mk (below_step HB.out B11)
 clear HB
 have HB := HBn
 clear HBn
 refine qv (v := .bool true) (r_not rfl rfl) ?_
 refine qv (v := .bool true) (r_assign rfl) ?_
 refine q_nil ?_
 refine x_seq ?_
 refine s_true rfl ?_
 refine s_seq ?_
 refine s_region ?_
 refine qv (v := .agg #[.int .i64 0, .int .u32 0, .bool false, .slice none 0 0, .int .i64 0]) (r_build (ps := []) rfl (by kernel_rfl)) ?_
 refine qo ?_
 refine e_store (vs := [.int .i64 0, .int .u32 0, .bool false, .slice none 0 0, .int .i64 0]) (cs' := [.int .i64 0, .int .u32 0, .bool false, .slice none 0 0, .int .i64 0]) S12 rfl rfl rfl rfl sz_28 0 rfl (.inl rfl) rfl rfl rfl ?_
 intro w13 S14 E15
 refine qv (v := .bool false) (r_assign rfl) ?_
 refine qv (v := .int .i64 22) (r_assign rfl) ?_
 refine q_nil ?_
 refine x_seq ?_
 refine s_ret ?_
 refine x_blk_ret ?_
 refine x_seq_ret ?_
 refine t_retctt (cs := [.int .i64 0, .int .u32 0, .bool false, .slice none 0 0, .int .i64 0]) (v' := .bool false) (v'' := .int .i64 22) rfl rfl rfl rfl (S14.blk 0 rfl) sz_28 ?_
 exact ⟨rfl, S14.ext.below⟩
set_option maxHeartbeats 8000000 in
set_option maxRecDepth 100000 in
theorem Set_low {w : World} (g : Nat) (fd : Int) (hf : fd < 0) (s : Slot) (A : Option Addr) (c : Nat) (hr : Kd.C (Kd.int .i64) w A s.f2.f1.length s.f2.f1) (hc : s.f2.f1.length ≤ c) (k : Nat) (hcan : slots_can.f k s.f0 s.f1 s.f2.f0 s.f2.f1 s.f3 = some true) :
  Calls Try.prog 29 #[.pointer (some ⟨g, 0, none⟩), .int .i64 fd, .agg #[.int .i64 s.f0, .int .u32 s.f1, .bool s.f2.f0, .slice A s.f2.f1.length c, .int .i64 s.f3]] w fun e w' => e = .returned (.tuple #[.agg #[.int .i64 0, .int .u32 0, .bool false, .slice none 0 0, .int .i64 0], .bool false, .int .i64 9]) ∧ Below w.heap.size w w' := by
 have HR := Aside0.mk hr
 have HC := Aside0.mk hc
 have HCan := Aside0.mk hcan
 have HB := Aside0.mk (Below.refl w.heap.size w)
 clear hcan
 refine s_enter (n := 49) (L := [(0, .pointer (some ⟨g, 0, none⟩)), (1, .int .i64 fd), (2, .agg #[.int .i64 s.f0, .int .u32 s.f1, .bool s.f2.f0, .slice A s.f2.f1.length c, .int .i64 s.f3])]) Try.func29 rfl rfl rfl rfl ?_
 have S1 := St.start w no
 refine s_seq ?_
 refine s_region ?_
 refine qo ?_
 refine e_box (cs := [.int .i64 s.f0, .int .u32 s.f1, .bool s.f2.f0, .slice A s.f2.f1.length c, .int .i64 s.f3]) S1 rfl rfl ?_
 intro g2 w3 hg2 S4 B5
 have HBn := Aside0.mk (below_step HB.out B5)
 clear HB
 have HB := HBn
 clear HBn
 refine qo ?_
 refine e_alloc S4 zro_28 ?_
 intro g6 w7 hg6 S8 B9
 have HBn := Aside0.mk (below_step HB.out B9)
 clear HB
 have HB := HBn
 clear HBn
 refine qv (v := .bool false) (r_assign rfl) ?_
 refine qv (v := .int .i64 0) (r_assign rfl) ?_
 refine q_nil ?_
 refine x_seq ?_
 refine s_seq ?_
 refine s_block ?_
 refine s_seq ?_
 refine s_seq ?_
 refine s_region ?_
 refine qv (v := .pointer (some ⟨g, 0, none⟩)) (r_move rfl) ?_
 refine qv (v := .bool false) (r_peql ptr_31 rfl rfl rfl) ?_
 refine qv (v := .bool false) (r_assign rfl) ?_
 refine q_nil ?_
 refine x_seq ?_
 refine s_false rfl ?_
 refine s_region ?_
 refine qv (v := .agg #[.int .i64 s.f0, .int .u32 s.f1, .bool s.f2.f0, .slice A s.f2.f1.length c, .int .i64 s.f3]) (r_loadN (vs := [.int .i64 s.f0, .int .u32 s.f1, .bool s.f2.f0, .slice A s.f2.f1.length c, .int .i64 s.f3]) sz_28 rfl (S8.blk 1 rfl) rfl rfl) ?_
 refine qo ?_
 refine e_call (args := [.agg #[.int .i64 s.f0, .int .u32 s.f1, .bool s.f2.f0, .slice A s.f2.f1.length c, .int .i64 s.f3]]) Try.func33 (by kernel_rfl) rfl rfl ?_
 refine (slots_can.calls k _ _ _ _ _ _ _ true _ (Kd.C_below HR.out HB.out) HC.out HCan.out).mono ?_
 rintro e w10 ⟨rfl, hb⟩
 refine ⟨_, rfl, ?_⟩
 have B11 := hb
 have S12 := S8.call B11
 have HBn := Aside0.mk (below_step HB.out B11)
 clear HB
 have HB := HBn
 clear HBn
 refine qv (v := .bool false) (r_not rfl rfl) ?_
 refine qv (v := .bool false) (r_assign rfl) ?_
 refine q_nil ?_
 refine x_seq ?_
 refine s_false rfl ?_
 refine s_seq ?_
 refine s_seq ?_
 refine s_region ?_
 refine qv (v := .int .i64 fd) (r_move rfl) ?_
 refine qv (v := .bool true) (r_lss rfl rfl (decide_eq_true (hf))) ?_
 refine qv (v := .bool true) (r_assign rfl) ?_
 refine q_nil ?_
 refine x_seq ?_
 refine s_true rfl ?_
 refine s_skip ?_
 refine x_seq ?_
 refine s_true rfl ?_
 refine s_seq ?_
 refine s_region ?_
 refine qv (v := .agg #[.int .i64 0, .int .u32 0, .bool false, .slice none 0 0, .int .i64 0]) (r_build (ps := []) rfl (by kernel_rfl)) ?_
 refine qo ?_
 refine e_store (vs := [.int .i64 0, .int .u32 0, .bool false, .slice none 0 0, .int .i64 0]) (cs' := [.int .i64 0, .int .u32 0, .bool false, .slice none 0 0, .int .i64 0]) S12 rfl rfl rfl rfl sz_28 0 rfl (.inl rfl) rfl rfl rfl ?_
 intro w13 S14 E15
 refine qv (v := .bool false) (r_assign rfl) ?_
 refine qv (v := .int .i64 9) (r_assign rfl) ?_
 refine q_nil ?_
 refine x_seq ?_
 refine s_ret ?_
 refine x_blk_ret ?_
 refine x_seq_ret ?_
 refine t_retctt (cs := [.int .i64 0, .int .u32 0, .bool false, .slice none 0 0, .int .i64 0]) (v' := .bool false) (v'' := .int .i64 9) rfl rfl rfl rfl (S14.blk 0 rfl) sz_28 ?_
 exact ⟨rfl, S14.ext.below⟩
set_option maxHeartbeats 8000000 in
set_option maxRecDepth 100000 in
theorem Set_high {w : World} {b g p : Nat} {ok : Nat → Prop} {qs : List (Option Nat)} {ss : List (Option Slot)} (h : TabAt w b ok g p qs ss) (fd : Int) (h0 : 0 ≤ fd) (hf : (qs.length : Int) ≤ fd) (s : Slot) (A : Option Addr) (c : Nat) (hr : Kd.C (Kd.int .i64) w A s.f2.f1.length s.f2.f1) (hc : s.f2.f1.length ≤ c) (k : Nat) (hcan : slots_can.f k s.f0 s.f1 s.f2.f0 s.f2.f1 s.f3 = some true) :
  Calls Try.prog 29 #[.pointer (some ⟨g, 0, none⟩), .int .i64 fd, .agg #[.int .i64 s.f0, .int .u32 s.f1, .bool s.f2.f0, .slice A s.f2.f1.length c, .int .i64 s.f3]] w fun e w' => e = .returned (.tuple #[.agg #[.int .i64 0, .int .u32 0, .bool false, .slice none 0 0, .int .i64 0], .bool false, .int .i64 9]) ∧ Below w.heap.size w w' := by
 have HR := Aside0.mk hr
 have HC := Aside0.mk hc
 have HCan := Aside0.mk hcan
 have HT := Aside0.mk h
 have S0 := tab_st h no
 have HB := Aside0.mk (Below.refl w.heap.size w)
 clear hcan
 refine s_enter (n := 49) (L := [(0, .pointer (some ⟨g, 0, none⟩)), (1, .int .i64 fd), (2, .agg #[.int .i64 s.f0, .int .u32 s.f1, .bool s.f2.f0, .slice A s.f2.f1.length c, .int .i64 s.f3])]) Try.func29 rfl rfl rfl rfl ?_
 refine s_seq ?_
 refine s_region ?_
 refine qo ?_
 refine e_box (cs := [.int .i64 s.f0, .int .u32 s.f1, .bool s.f2.f0, .slice A s.f2.f1.length c, .int .i64 s.f3]) S0 rfl rfl ?_
 intro g1 w2 hg1 S3 B4
 have HBn := Aside0.mk (below_step HB.out B4)
 clear HB
 have HB := HBn
 clear HBn
 refine qo ?_
 refine e_alloc S3 zro_28 ?_
 intro g5 w6 hg5 S7 B8
 have HBn := Aside0.mk (below_step HB.out B8)
 clear HB
 have HB := HBn
 clear HBn
 refine qv (v := .bool false) (r_assign rfl) ?_
 refine qv (v := .int .i64 0) (r_assign rfl) ?_
 refine q_nil ?_
 refine x_seq ?_
 refine s_seq ?_
 refine s_block ?_
 refine s_seq ?_
 refine s_seq ?_
 refine s_region ?_
 refine qv (v := .pointer (some ⟨g, 0, none⟩)) (r_move rfl) ?_
 refine qv (v := .bool false) (r_peql ptr_31 rfl rfl rfl) ?_
 refine qv (v := .bool false) (r_assign rfl) ?_
 refine q_nil ?_
 refine x_seq ?_
 refine s_false rfl ?_
 refine s_region ?_
 refine qv (v := .agg #[.int .i64 s.f0, .int .u32 s.f1, .bool s.f2.f0, .slice A s.f2.f1.length c, .int .i64 s.f3]) (r_loadN (vs := [.int .i64 s.f0, .int .u32 s.f1, .bool s.f2.f0, .slice A s.f2.f1.length c, .int .i64 s.f3]) sz_28 rfl (S7.blk 1 rfl) rfl rfl) ?_
 refine qo ?_
 refine e_call (args := [.agg #[.int .i64 s.f0, .int .u32 s.f1, .bool s.f2.f0, .slice A s.f2.f1.length c, .int .i64 s.f3]]) Try.func33 (by kernel_rfl) rfl rfl ?_
 refine (slots_can.calls k _ _ _ _ _ _ _ true _ (Kd.C_below HR.out HB.out) HC.out HCan.out).mono ?_
 rintro e w9 ⟨rfl, hb⟩
 refine ⟨_, rfl, ?_⟩
 have B10 := hb
 have S11 := S7.call B10
 have HBn := Aside0.mk (below_step HB.out B10)
 clear HB
 have HB := HBn
 clear HBn
 refine qv (v := .bool false) (r_not rfl rfl) ?_
 refine qv (v := .bool false) (r_assign rfl) ?_
 refine q_nil ?_
 refine x_seq ?_
 refine s_false rfl ?_
 refine s_seq ?_
 refine s_seq ?_
 refine s_region ?_
 refine qv (v := .int .i64 fd) (r_move rfl) ?_
 refine qv (v := .bool false) (r_lss rfl rfl (decide_eq_false (by omega))) ?_
 refine qv (v := .bool false) (r_assign rfl) ?_
 refine q_nil ?_
 refine x_seq ?_
 refine s_false rfl ?_
 refine s_region ?_
 refine qv (v := .int .i64 fd) (r_move rfl) ?_
 refine qv (v := .pointer (some ⟨g, 0, none⟩)) (r_move rfl) ?_
 refine qv (v := .pointer (some ⟨g, 0, none⟩)) (r_nilCheck rfl) ?_
 refine qv (v := .pointer (some ⟨g, 0, none⟩)) (r_field fld_67_0 rfl rfl) ?_
 refine qv (v := .slice (some ⟨p, 0, none⟩) qs.length qs.length) (r_load1 sz_65 rfl (S11.cell 2 rfl rfl)) ?_
 refine qv (v := .int .i64 ((qs.length : Nat) : Int)) (r_len_slice elm_65 rfl) ?_
 refine qv (v := .bool true) (r_geq rfl rfl (decide_eq_true (hf))) ?_
 refine qv (v := .bool true) (r_assign rfl) ?_
 refine q_nil ?_
 refine x_seq ?_
 refine s_true rfl ?_
 refine s_seq ?_
 refine s_region ?_
 refine qv (v := .agg #[.int .i64 0, .int .u32 0, .bool false, .slice none 0 0, .int .i64 0]) (r_build (ps := []) rfl (by kernel_rfl)) ?_
 refine qo ?_
 refine e_store (vs := [.int .i64 0, .int .u32 0, .bool false, .slice none 0 0, .int .i64 0]) (cs' := [.int .i64 0, .int .u32 0, .bool false, .slice none 0 0, .int .i64 0]) S11 rfl rfl rfl rfl sz_28 0 rfl (.inl rfl) rfl rfl rfl ?_
 intro w12 S13 E14
 refine qv (v := .bool false) (r_assign rfl) ?_
 refine qv (v := .int .i64 9) (r_assign rfl) ?_
 refine q_nil ?_
 refine x_seq ?_
 refine s_ret ?_
 refine x_blk_ret ?_
 refine x_seq_ret ?_
 refine t_retctt (cs := [.int .i64 0, .int .u32 0, .bool false, .slice none 0 0, .int .i64 0]) (v' := .bool false) (v'' := .int .i64 9) rfl rfl rfl rfl (S13.blk 0 rfl) sz_28 ?_
 exact ⟨rfl, S13.ext.below⟩
set_option maxHeartbeats 8000000 in
set_option maxRecDepth 100000 in
theorem Set_none {w : World} {b g p : Nat} {ok : Nat → Prop} {qs : List (Option Nat)} {ss : List (Option Slot)} (h : TabAt w b ok g p qs ss) (hok : ∀ k, w.heap.size ≤ k → ok k) (fd : Int) (h0 : 0 ≤ fd) (hq : qs[fd.toNat]? = some none) (s : Slot) (A : Option Addr) (c : Nat) (hr : Kd.C (Kd.int .i64) w A s.f2.f1.length s.f2.f1) (hc : s.f2.f1.length ≤ c) (k : Nat) (hcan : slots_can.f k s.f0 s.f1 s.f2.f0 s.f2.f1 s.f3 = some true) (hl : s.f2.f1.length * 8 ≤ 140737488355328) :
  Calls Try.prog 29 #[.pointer (some ⟨g, 0, none⟩), .int .i64 fd, .agg #[.int .i64 s.f0, .int .u32 s.f1, .bool s.f2.f0, .slice A s.f2.f1.length c, .int .i64 s.f3]] w fun e w' => e = .returned (.tuple #[.agg #[.int .i64 0, .int .u32 0, .bool false, .slice none 0 0, .int .i64 0], .bool false, .int .i64 0]) ∧ (∃ q, TabAt w' b ok g p (qs.set fd.toNat (some q)) (ss.set fd.toNat (some s))) ∧ Ext (fun k => k = p) w w' := by
 have HT := Aside0.mk h
 have HOK := Aside0.mk hok
 have HR := Aside0.mk hr
 have HC := Aside0.mk hc
 have HCan := Aside0.mk hcan
 have HOwn := Aside0.mk (show slots_own.f s.f0 s.f1 s.f2.f0 s.f2.f1 s.f3 = some (s.f0, s.f1, s.f2.f0, s.f2.f1, s.f3) by unfold slots_own.f slices_Clone_int_int.f; rw [if_pos hl]; rfl)
 have h1 : fd < (qs.length : Int) := by have := (List.getElem?_eq_some_iff.1 hq).1; omega
 have HM := Aside0.mk (show fd.toNat < qs.length by omega)
 have HQ := Aside0.mk (show (qs.map ptrV)[fd.toNat]? = some (.pointer none) by simp [hq, ptrV])
 have S0 := tab_st h (fun k => k = p)
 have HB := Aside0.mk (Below.refl w.heap.size w)
 clear hcan hl hq
 refine s_enter (n := 49) (L := [(0, .pointer (some ⟨g, 0, none⟩)), (1, .int .i64 fd), (2, .agg #[.int .i64 s.f0, .int .u32 s.f1, .bool s.f2.f0, .slice A s.f2.f1.length c, .int .i64 s.f3])]) Try.func29 rfl rfl rfl rfl ?_
 refine s_seq ?_
 refine s_region ?_
 refine qo ?_
 refine e_box (cs := [.int .i64 s.f0, .int .u32 s.f1, .bool s.f2.f0, .slice A s.f2.f1.length c, .int .i64 s.f3]) S0 rfl rfl ?_
 intro g1 w2 hg1 S3 B4
 have HBn := Aside0.mk (below_step HB.out B4)
 clear HB
 have HB := HBn
 clear HBn
 refine qo ?_
 refine e_alloc S3 zro_28 ?_
 intro g5 w6 hg5 S7 B8
 have HBn := Aside0.mk (below_step HB.out B8)
 clear HB
 have HB := HBn
 clear HBn
 refine qv (v := .bool false) (r_assign rfl) ?_
 refine qv (v := .int .i64 0) (r_assign rfl) ?_
 refine q_nil ?_
 refine x_seq ?_
 refine s_seq ?_
 refine s_block ?_
 refine s_seq ?_
 refine s_seq ?_
 refine s_region ?_
 refine qv (v := .pointer (some ⟨g, 0, none⟩)) (r_move rfl) ?_
 refine qv (v := .bool false) (r_peql ptr_31 rfl rfl rfl) ?_
 refine qv (v := .bool false) (r_assign rfl) ?_
 refine q_nil ?_
 refine x_seq ?_
 refine s_false rfl ?_
 refine s_region ?_
 refine qv (v := .agg #[.int .i64 s.f0, .int .u32 s.f1, .bool s.f2.f0, .slice A s.f2.f1.length c, .int .i64 s.f3]) (r_loadN (vs := [.int .i64 s.f0, .int .u32 s.f1, .bool s.f2.f0, .slice A s.f2.f1.length c, .int .i64 s.f3]) sz_28 rfl (S7.blk 1 rfl) rfl rfl) ?_
 refine qo ?_
 refine e_call (args := [.agg #[.int .i64 s.f0, .int .u32 s.f1, .bool s.f2.f0, .slice A s.f2.f1.length c, .int .i64 s.f3]]) Try.func33 (by kernel_rfl) rfl rfl ?_
 refine (slots_can.calls k _ _ _ _ _ _ _ true _ (Kd.C_below HR.out HB.out) HC.out HCan.out).mono ?_
 rintro e w9 ⟨rfl, hb⟩
 refine ⟨_, rfl, ?_⟩
 have B10 := hb
 have S11 := S7.call B10
 have HBn := Aside0.mk (below_step HB.out B10)
 clear HB
 have HB := HBn
 clear HBn
 refine qv (v := .bool false) (r_not rfl rfl) ?_
 refine qv (v := .bool false) (r_assign rfl) ?_
 refine q_nil ?_
 refine x_seq ?_
 refine s_false rfl ?_
 refine s_seq ?_
 refine s_seq ?_
 refine s_region ?_
 refine qv (v := .int .i64 fd) (r_move rfl) ?_
 refine qv (v := .bool false) (r_lss rfl rfl (decide_eq_false (by omega))) ?_
 refine qv (v := .bool false) (r_assign rfl) ?_
 refine q_nil ?_
 refine x_seq ?_
 refine s_false rfl ?_
 refine s_region ?_
 refine qv (v := .int .i64 fd) (r_move rfl) ?_
 refine qv (v := .pointer (some ⟨g, 0, none⟩)) (r_move rfl) ?_
 refine qv (v := .pointer (some ⟨g, 0, none⟩)) (r_nilCheck rfl) ?_
 refine qv (v := .pointer (some ⟨g, 0, none⟩)) (r_field fld_67_0 rfl rfl) ?_
 refine qv (v := .slice (some ⟨p, 0, none⟩) qs.length qs.length) (r_load1 sz_65 rfl (S11.cell 2 rfl rfl)) ?_
 refine qv (v := .int .i64 ((qs.length : Nat) : Int)) (r_len_slice elm_65 rfl) ?_
 refine qv (v := .bool false) (r_geq rfl rfl (decide_eq_false (by omega))) ?_
 refine qv (v := .bool false) (r_assign rfl) ?_
 refine q_nil ?_
 refine x_seq ?_
 refine s_false rfl ?_
 refine s_skip ?_
 refine x_blk ?_
 refine x_seq ?_
 refine s_seq ?_
 refine s_region ?_
 refine qv (v := .agg #[.int .i64 s.f0, .int .u32 s.f1, .bool s.f2.f0, .slice A s.f2.f1.length c, .int .i64 s.f3]) (r_loadN (vs := [.int .i64 s.f0, .int .u32 s.f1, .bool s.f2.f0, .slice A s.f2.f1.length c, .int .i64 s.f3]) sz_28 rfl (S11.blk 1 rfl) rfl rfl) ?_
 refine qo ?_
 refine e_call (args := [.agg #[.int .i64 s.f0, .int .u32 s.f1, .bool s.f2.f0, .slice A s.f2.f1.length c, .int .i64 s.f3]]) Try.func35 (by kernel_rfl) rfl rfl ?_
 have HBo := HB
 refine (slots_own.calls _ _ _ _ _ _ _ _ _ _ _ _ _ (Kd.C_below HR.out HB.out) HC.out HOwn.out).mono ?_
 rintro e w12 ⟨v, rfl, ho, hb⟩
 obtain ⟨Av, cv, rfl⟩ := Kd.R_slice ho
 refine ⟨_, rfl, ?_⟩
 have B13 := hb
 have S14 := S11.call B13
 have HBn := Aside0.mk (below_step HB.out B13)
 clear HB
 have HB := HBn
 clear HBn
 have HO := Aside0.mk (row_for (b := b) (ok := ok) (Kd.R_lower ho (Nat.le_refl _)) (Nat.le_trans (tab_low HT.out) (HBo.out.size)) (fun k hk => HOK.out k (Nat.le_trans HBo.out.size hk)))
 refine qo ?_
 refine e_store (vs := [.int .i64 s.f0, .int .u32 s.f1, .bool s.f2.f0, .slice Av s.f2.f1.length cv, .int .i64 s.f3]) (cs' := [.int .i64 s.f0, .int .u32 s.f1, .bool s.f2.f0, .slice Av s.f2.f1.length cv, .int .i64 s.f3]) S14 rfl rfl rfl rfl sz_28 1 rfl (.inl rfl) rfl rfl rfl ?_
 intro w15 S16 E17
 refine q_nil ?_
 refine x_seq ?_
 refine s_seq ?_
 refine s_region ?_
 refine qv (v := .pointer (some ⟨g, 0, none⟩)) (r_move rfl) ?_
 refine qv (v := .pointer (some ⟨g, 0, none⟩)) (r_nilCheck rfl) ?_
 refine qv (v := .pointer (some ⟨g, 0, none⟩)) (r_field fld_67_0 rfl rfl) ?_
 refine qv (v := .slice (some ⟨p, 0, none⟩) qs.length qs.length) (r_load1 sz_65 rfl (S16.cell 2 rfl rfl)) ?_
 refine qv (v := .int .i64 fd) (r_move rfl) ?_
 refine qv (v := .pointer (some ⟨p, fd.toNat, none⟩)) (r_index elm_65 rfl rfl (by omega) (by omega) (by omega)) ?_
 refine qv (v := .pointer none) (r_load1 sz_71 rfl (cell_at (S16.blk 3 rfl) HQ.out)) ?_
 refine qv (v := .pointer none) (r_assign rfl) ?_
 refine q_nil ?_
 refine x_seq ?_
 refine s_seq ?_
 refine s_region ?_
 refine qv (v := .pointer (some ⟨g, 0, none⟩)) (r_move rfl) ?_
 refine qv (v := .pointer (some ⟨g, 0, none⟩)) (r_nilCheck rfl) ?_
 refine qv (v := .pointer (some ⟨g, 0, none⟩)) (r_field fld_67_0 rfl rfl) ?_
 refine qv (v := .slice (some ⟨p, 0, none⟩) qs.length qs.length) (r_load1 sz_65 rfl (S16.cell 2 rfl rfl)) ?_
 refine qv (v := .int .i64 fd) (r_move rfl) ?_
 refine qv (v := .pointer (some ⟨p, fd.toNat, none⟩)) (r_index elm_65 rfl rfl (by omega) (by omega) (by omega)) ?_
 refine qo ?_
 refine e_storeAt (cs := qs.map ptrV) (σ' := [⟨g5, true, .cells #[.int .i64 0, .int .u32 0, .bool false, .slice none 0 0, .int .i64 0] 28 (0, 0)⟩, ⟨g1, true, .cells #[.int .i64 s.f0, .int .u32 s.f1, .bool s.f2.f0, .slice Av s.f2.f1.length cv, .int .i64 s.f3] 28 (0, 0)⟩, ⟨g, false, .cells #[.slice (some ⟨p, 0, none⟩) qs.length qs.length] 67 (0, 0)⟩, ⟨p, false, (.cells ((qs.set fd.toNat (some g1)).map ptrV).toArray 71 (0, 0))⟩]) S16 rfl rfl rfl rfl sz_71 3 rfl (.inr rfl) (by simp; omega) (row_set qs fd.toNat (some g1)) rfl ?_
 intro w18 S19 E20
 refine q_nil ?_
 refine x_seq ?_
 refine s_seq ?_
 refine s_seq ?_
 refine s_region ?_
 refine qv (v := .pointer none) (r_move rfl) ?_
 refine qv (v := .bool true) (r_peql ptr_71 rfl rfl rfl) ?_
 refine q_nil ?_
 refine x_seq ?_
 refine s_true rfl ?_
 refine s_seq ?_
 refine s_region ?_
 refine qv (v := .agg #[.int .i64 0, .int .u32 0, .bool false, .slice none 0 0, .int .i64 0]) (r_build (ps := []) rfl (by kernel_rfl)) ?_
 refine qo ?_
 refine e_store (vs := [.int .i64 0, .int .u32 0, .bool false, .slice none 0 0, .int .i64 0]) (cs' := [.int .i64 0, .int .u32 0, .bool false, .slice none 0 0, .int .i64 0]) S19 rfl rfl rfl rfl sz_28 0 rfl (.inl rfl) rfl rfl rfl ?_
 intro w21 S22 E23
 refine qv (v := .bool false) (r_assign rfl) ?_
 refine qv (v := .int .i64 0) (r_assign rfl) ?_
 refine q_nil ?_
 refine x_seq ?_
 refine s_ret ?_
 refine x_seq_ret ?_
 refine t_retctt (cs := [.int .i64 0, .int .u32 0, .bool false, .slice none 0 0, .int .i64 0]) (v' := .bool false) (v'' := .int .i64 0) rfl rfl rfl rfl (S22.blk 0 rfl) sz_28 ?_
 have hbig : w.heap.size ≤ g1 := S22.own _ (List.mem_of_getElem? (i := 1) rfl) rfl
 have HN := R_ext (R_ext (R_ext HO.out E17 (S14.blk 1 rfl) (by decide)) E20 (S16.blk 3 rfl) (by decide)) E23 (S19.blk 0 rfl) (by decide)
 exact ⟨rfl, ⟨g1, HT.out.at_row HM.out (some g1) (some s) (fun k hk h1 h2 => S22.ext.block k h1 h2) (S22.blk 3 rfl) (.inr ⟨g1, s, rfl, rfl, by have := tab_low HT.out; omega, HOK.out _ hbig, tab_new HT.out hbig, Av, cv, S22.blk 1 rfl, HN⟩)⟩, S22.ext⟩
set_option maxHeartbeats 8000000 in
set_option maxRecDepth 100000 in
theorem Set_some {w : World} {b g p : Nat} {ok : Nat → Prop} {qs : List (Option Nat)} {ss : List (Option Slot)} (h : TabAt w b ok g p qs ss) (hok : ∀ k, w.heap.size ≤ k → ok k) (fd : Int) (h0 : 0 ≤ fd) {q : Nat} (hq : qs[fd.toNat]? = some (some q)) (s0 : Slot) (hs0 : ss[fd.toNat]? = some (some s0)) (s : Slot) (A : Option Addr) (c : Nat) (hr : Kd.C (Kd.int .i64) w A s.f2.f1.length s.f2.f1) (hc : s.f2.f1.length ≤ c) (k : Nat) (hcan : slots_can.f k s.f0 s.f1 s.f2.f0 s.f2.f1 s.f3 = some true) (hl : s.f2.f1.length * 8 ≤ 140737488355328) :
  Calls Try.prog 29 #[.pointer (some ⟨g, 0, none⟩), .int .i64 fd, .agg #[.int .i64 s.f0, .int .u32 s.f1, .bool s.f2.f0, .slice A s.f2.f1.length c, .int .i64 s.f3]] w fun e w' => ∃ v, e = .returned (.tuple #[.agg #[.int .i64 s0.f0, .int .u32 s0.f1, .bool s0.f2.f0, v, .int .i64 s0.f3], .bool true, .int .i64 0]) ∧ Kd.R (Kd.int .i64) 3 w' b ok v s0.f2.f1 ∧ (∃ q, TabAt w' b ok g p (qs.set fd.toNat (some q)) (ss.set fd.toNat (some s))) ∧ Ext (fun k => k = p) w w' := by
 have HT := Aside0.mk h
 have HOK := Aside0.mk hok
 have HR := Aside0.mk hr
 have HC := Aside0.mk hc
 have HCan := Aside0.mk hcan
 have HOwn := Aside0.mk (show slots_own.f s.f0 s.f1 s.f2.f0 s.f2.f1 s.f3 = some (s.f0, s.f1, s.f2.f0, s.f2.f1, s.f3) by unfold slots_own.f slices_Clone_int_int.f; rw [if_pos hl]; rfl)
 have h1 : fd < (qs.length : Int) := by have := (List.getElem?_eq_some_iff.1 hq).1; omega
 have HM := Aside0.mk (show fd.toNat < qs.length by omega)
 have HQ := Aside0.mk (show (qs.map ptrV)[fd.toNat]? = some (.pointer (some ⟨q, 0, none⟩)) by simp [hq, ptrV])
 obtain ⟨_, _, s1, hs1, A0, c0, hb0, hr0⟩ := h.som fd.toNat q hq
 rw [hs0] at hs1
 obtain rfl := Option.some.inj (Option.some.inj hs1)
 have HR0 := Aside0.mk hr0
 have S0 := tab_st3 h (fun k => k = p) hb0
 clear hs1 hb0 hr0
 have HB := Aside0.mk (Below.refl w.heap.size w)
 clear hcan hl hq
 refine s_enter (n := 49) (L := [(0, .pointer (some ⟨g, 0, none⟩)), (1, .int .i64 fd), (2, .agg #[.int .i64 s.f0, .int .u32 s.f1, .bool s.f2.f0, .slice A s.f2.f1.length c, .int .i64 s.f3])]) Try.func29 rfl rfl rfl rfl ?_
 refine s_seq ?_
 refine s_region ?_
 refine qo ?_
 refine e_box (cs := [.int .i64 s.f0, .int .u32 s.f1, .bool s.f2.f0, .slice A s.f2.f1.length c, .int .i64 s.f3]) S0 rfl rfl ?_
 intro g1 w2 hg1 S3 B4
 have HBn := Aside0.mk (below_step HB.out B4)
 clear HB
 have HB := HBn
 clear HBn
 refine qo ?_
 refine e_alloc S3 zro_28 ?_
 intro g5 w6 hg5 S7 B8
 have HBn := Aside0.mk (below_step HB.out B8)
 clear HB
 have HB := HBn
 clear HBn
 refine qv (v := .bool false) (r_assign rfl) ?_
 refine qv (v := .int .i64 0) (r_assign rfl) ?_
 refine q_nil ?_
 refine x_seq ?_
 refine s_seq ?_
 refine s_block ?_
 refine s_seq ?_
 refine s_seq ?_
 refine s_region ?_
 refine qv (v := .pointer (some ⟨g, 0, none⟩)) (r_move rfl) ?_
 refine qv (v := .bool false) (r_peql ptr_31 rfl rfl rfl) ?_
 refine qv (v := .bool false) (r_assign rfl) ?_
 refine q_nil ?_
 refine x_seq ?_
 refine s_false rfl ?_
 refine s_region ?_
 refine qv (v := .agg #[.int .i64 s.f0, .int .u32 s.f1, .bool s.f2.f0, .slice A s.f2.f1.length c, .int .i64 s.f3]) (r_loadN (vs := [.int .i64 s.f0, .int .u32 s.f1, .bool s.f2.f0, .slice A s.f2.f1.length c, .int .i64 s.f3]) sz_28 rfl (S7.blk 1 rfl) rfl rfl) ?_
 refine qo ?_
 refine e_call (args := [.agg #[.int .i64 s.f0, .int .u32 s.f1, .bool s.f2.f0, .slice A s.f2.f1.length c, .int .i64 s.f3]]) Try.func33 (by kernel_rfl) rfl rfl ?_
 refine (slots_can.calls k _ _ _ _ _ _ _ true _ (Kd.C_below HR.out HB.out) HC.out HCan.out).mono ?_
 rintro e w9 ⟨rfl, hb⟩
 refine ⟨_, rfl, ?_⟩
 have B10 := hb
 have S11 := S7.call B10
 have HBn := Aside0.mk (below_step HB.out B10)
 clear HB
 have HB := HBn
 clear HBn
 refine qv (v := .bool false) (r_not rfl rfl) ?_
 refine qv (v := .bool false) (r_assign rfl) ?_
 refine q_nil ?_
 refine x_seq ?_
 refine s_false rfl ?_
 refine s_seq ?_
 refine s_seq ?_
 refine s_region ?_
 refine qv (v := .int .i64 fd) (r_move rfl) ?_
 refine qv (v := .bool false) (r_lss rfl rfl (decide_eq_false (by omega))) ?_
 refine qv (v := .bool false) (r_assign rfl) ?_
 refine q_nil ?_
 refine x_seq ?_
 refine s_false rfl ?_
 refine s_region ?_
 refine qv (v := .int .i64 fd) (r_move rfl) ?_
 refine qv (v := .pointer (some ⟨g, 0, none⟩)) (r_move rfl) ?_
 refine qv (v := .pointer (some ⟨g, 0, none⟩)) (r_nilCheck rfl) ?_
 refine qv (v := .pointer (some ⟨g, 0, none⟩)) (r_field fld_67_0 rfl rfl) ?_
 refine qv (v := .slice (some ⟨p, 0, none⟩) qs.length qs.length) (r_load1 sz_65 rfl (S11.cell 2 rfl rfl)) ?_
 refine qv (v := .int .i64 ((qs.length : Nat) : Int)) (r_len_slice elm_65 rfl) ?_
 refine qv (v := .bool false) (r_geq rfl rfl (decide_eq_false (by omega))) ?_
 refine qv (v := .bool false) (r_assign rfl) ?_
 refine q_nil ?_
 refine x_seq ?_
 refine s_false rfl ?_
 refine s_skip ?_
 refine x_blk ?_
 refine x_seq ?_
 refine s_seq ?_
 refine s_region ?_
 refine qv (v := .agg #[.int .i64 s.f0, .int .u32 s.f1, .bool s.f2.f0, .slice A s.f2.f1.length c, .int .i64 s.f3]) (r_loadN (vs := [.int .i64 s.f0, .int .u32 s.f1, .bool s.f2.f0, .slice A s.f2.f1.length c, .int .i64 s.f3]) sz_28 rfl (S11.blk 1 rfl) rfl rfl) ?_
 refine qo ?_
 refine e_call (args := [.agg #[.int .i64 s.f0, .int .u32 s.f1, .bool s.f2.f0, .slice A s.f2.f1.length c, .int .i64 s.f3]]) Try.func35 (by kernel_rfl) rfl rfl ?_
 have HBo := HB
 refine (slots_own.calls _ _ _ _ _ _ _ _ _ _ _ _ _ (Kd.C_below HR.out HB.out) HC.out HOwn.out).mono ?_
 rintro e w12 ⟨v, rfl, ho, hb⟩
 obtain ⟨Av, cv, rfl⟩ := Kd.R_slice ho
 refine ⟨_, rfl, ?_⟩
 have B13 := hb
 have S14 := S11.call B13
 have HBn := Aside0.mk (below_step HB.out B13)
 clear HB
 have HB := HBn
 clear HBn
 have HO := Aside0.mk (row_for (b := b) (ok := ok) (Kd.R_lower ho (Nat.le_refl _)) (Nat.le_trans (tab_low HT.out) (HBo.out.size)) (fun k hk => HOK.out k (Nat.le_trans HBo.out.size hk)))
 refine qo ?_
 refine e_store (vs := [.int .i64 s.f0, .int .u32 s.f1, .bool s.f2.f0, .slice Av s.f2.f1.length cv, .int .i64 s.f3]) (cs' := [.int .i64 s.f0, .int .u32 s.f1, .bool s.f2.f0, .slice Av s.f2.f1.length cv, .int .i64 s.f3]) S14 rfl rfl rfl rfl sz_28 1 rfl (.inl rfl) rfl rfl rfl ?_
 intro w15 S16 E17
 refine q_nil ?_
 refine x_seq ?_
 refine s_seq ?_
 refine s_region ?_
 refine qv (v := .pointer (some ⟨g, 0, none⟩)) (r_move rfl) ?_
 refine qv (v := .pointer (some ⟨g, 0, none⟩)) (r_nilCheck rfl) ?_
 refine qv (v := .pointer (some ⟨g, 0, none⟩)) (r_field fld_67_0 rfl rfl) ?_
 refine qv (v := .slice (some ⟨p, 0, none⟩) qs.length qs.length) (r_load1 sz_65 rfl (S16.cell 2 rfl rfl)) ?_
 refine qv (v := .int .i64 fd) (r_move rfl) ?_
 refine qv (v := .pointer (some ⟨p, fd.toNat, none⟩)) (r_index elm_65 rfl rfl (by omega) (by omega) (by omega)) ?_
 refine qv (v := .pointer (some ⟨q, 0, none⟩)) (r_load1 sz_71 rfl (cell_at (S16.blk 3 rfl) HQ.out)) ?_
 refine qv (v := .pointer (some ⟨q, 0, none⟩)) (r_assign rfl) ?_
 refine q_nil ?_
 refine x_seq ?_
 refine s_seq ?_
 refine s_region ?_
 refine qv (v := .pointer (some ⟨g, 0, none⟩)) (r_move rfl) ?_
 refine qv (v := .pointer (some ⟨g, 0, none⟩)) (r_nilCheck rfl) ?_
 refine qv (v := .pointer (some ⟨g, 0, none⟩)) (r_field fld_67_0 rfl rfl) ?_
 refine qv (v := .slice (some ⟨p, 0, none⟩) qs.length qs.length) (r_load1 sz_65 rfl (S16.cell 2 rfl rfl)) ?_
 refine qv (v := .int .i64 fd) (r_move rfl) ?_
 refine qv (v := .pointer (some ⟨p, fd.toNat, none⟩)) (r_index elm_65 rfl rfl (by omega) (by omega) (by omega)) ?_
 refine qo ?_
 refine e_storeAt (cs := qs.map ptrV) (σ' := [⟨g5, true, .cells #[.int .i64 0, .int .u32 0, .bool false, .slice none 0 0, .int .i64 0] 28 (0, 0)⟩, ⟨g1, true, .cells #[.int .i64 s.f0, .int .u32 s.f1, .bool s.f2.f0, .slice Av s.f2.f1.length cv, .int .i64 s.f3] 28 (0, 0)⟩, ⟨g, false, .cells #[.slice (some ⟨p, 0, none⟩) qs.length qs.length] 67 (0, 0)⟩, ⟨p, false, (.cells ((qs.set fd.toNat (some g1)).map ptrV).toArray 71 (0, 0))⟩, ⟨q, false, .cells #[.int .i64 s0.f0, .int .u32 s0.f1, .bool s0.f2.f0, .slice A0 s0.f2.f1.length c0, .int .i64 s0.f3] 28 (0, 0)⟩]) S16 rfl rfl rfl rfl sz_71 3 rfl (.inr rfl) (by simp; omega) (row_set qs fd.toNat (some g1)) rfl ?_
 intro w18 S19 E20
 refine q_nil ?_
 refine x_seq ?_
 refine s_seq ?_
 refine s_seq ?_
 refine s_region ?_
 refine qv (v := .pointer (some ⟨q, 0, none⟩)) (r_move rfl) ?_
 refine qv (v := .bool false) (r_peql ptr_71 rfl rfl rfl) ?_
 refine q_nil ?_
 refine x_seq ?_
 refine s_false rfl ?_
 refine s_skip ?_
 refine x_seq ?_
 refine s_seq ?_
 refine s_region ?_
 refine qv (v := .pointer (some ⟨q, 0, none⟩)) (r_move rfl) ?_
 refine qv (v := .pointer (some ⟨q, 0, none⟩)) (r_nilCheck rfl) ?_
 refine qv (v := .agg #[.int .i64 s0.f0, .int .u32 s0.f1, .bool s0.f2.f0, .slice A0 s0.f2.f1.length c0, .int .i64 s0.f3]) (r_loadN (vs := [.int .i64 s0.f0, .int .u32 s0.f1, .bool s0.f2.f0, .slice A0 s0.f2.f1.length c0, .int .i64 s0.f3]) sz_28 rfl (S19.blk 4 rfl) rfl rfl) ?_
 refine qo ?_
 refine e_store (vs := [.int .i64 s0.f0, .int .u32 s0.f1, .bool s0.f2.f0, .slice A0 s0.f2.f1.length c0, .int .i64 s0.f3]) (cs' := [.int .i64 s0.f0, .int .u32 s0.f1, .bool s0.f2.f0, .slice A0 s0.f2.f1.length c0, .int .i64 s0.f3]) S19 rfl rfl rfl rfl sz_28 0 rfl (.inl rfl) rfl rfl rfl ?_
 intro w21 S22 E23
 refine qv (v := .bool true) (r_assign rfl) ?_
 refine qv (v := .int .i64 0) (r_assign rfl) ?_
 refine q_nil ?_
 refine x_seq ?_
 refine s_ret ?_
 refine t_retctt (cs := [.int .i64 s0.f0, .int .u32 s0.f1, .bool s0.f2.f0, .slice A0 s0.f2.f1.length c0, .int .i64 s0.f3]) (v' := .bool true) (v'' := .int .i64 0) rfl rfl rfl rfl (S22.blk 0 rfl) sz_28 ?_
 have hbig : w.heap.size ≤ g1 := S22.own _ (List.mem_of_getElem? (i := 1) rfl) rfl
 have HN := R_ext (R_ext (R_ext HO.out E17 (S14.blk 1 rfl) (by decide)) E20 (S16.blk 3 rfl) (by decide)) E23 (S19.blk 0 rfl) (by decide)
 exact ⟨_, rfl, Kd.R_mono (Kd.R_step (Kd.R_types HR0.out HT.out.row (by decide)) (fun k hk h2 => S22.ext.block k h2 hk.2)) (fun _ h => h.1), ⟨g1, HT.out.at_row HM.out (some g1) (some s) (fun k hk h1 h2 => S22.ext.block k h1 h2) (S22.blk 3 rfl) (.inr ⟨g1, s, rfl, rfl, by have := tab_low HT.out; omega, HOK.out _ hbig, tab_new HT.out hbig, Av, cv, S22.blk 1 rfl, HN⟩)⟩, S22.ext⟩
end Go.Proofs.Ytilfalpfanaanaa.PA

namespace Go.Proofs.Ytilfalpfanaanaa.PA
open Go.RowKit Go.Proofs.YtilfalpfanaanaaW.PrintWords Go.Proofs.YtilfalpfanaanaaW.PrintLast Go.Proofs.YtilfalpfanaanaaW.PrintMore Go.Proofs.Ytilfalpfanaanaa.Sx
set_option maxHeartbeats 8000000 in
set_option maxRecDepth 100000 in
theorem Take_err {w : World} (x : Option Addr) (fd er : Int) (he : er ≠ 0)
  (hG : ∀ w', Below w.heap.size w w' → Calls Try.prog 36 #[.pointer x, .int .i64 fd] w' fun e w'' => e = .returned (.tuple #[.pointer none, .int .i64 er]) ∧ w'' = w') :
  Calls Try.prog 30 #[.pointer x, .int .i64 fd] w fun e w' => e = .returned (.tuple #[.agg #[.int .i64 0, .int .u32 0, .bool false, .slice none 0 0, .int .i64 0], .int .i64 er]) ∧ Below w.heap.size w w' := by
 have HG := Aside0.mk hG
 have HB := Aside0.mk (Below.refl w.heap.size w)
 clear hG
 refine s_enter (n := 27) (L := [(0, .pointer x), (1, .int .i64 fd)]) Try.func30 rfl rfl rfl rfl ?_
 have S1 := St.start w no
 refine s_seq ?_
 refine s_region ?_
 refine qo ?_
 refine e_alloc S1 zro_28 ?_
 intro g2 w3 hg2 S4 B5
 have HBn := Aside0.mk (below_step HB.out B5)
 clear HB
 have HB := HBn
 clear HBn
 refine qv (v := .int .i64 0) (r_assign rfl) ?_
 refine q_nil ?_
 refine x_seq ?_
 refine s_seq ?_
 refine s_region ?_
 refine qv (v := .pointer x) (r_move rfl) ?_
 refine qv (v := .int .i64 fd) (r_move rfl) ?_
 refine qo ?_
 refine e_call (args := [.pointer x, .int .i64 fd]) Try.func36 (by kernel_rfl) rfl rfl ?_
 refine (HG.out _ HB.out).mono ?_
 rintro e w6 ⟨rfl, rfl⟩
 refine ⟨_, rfl, ?_⟩
 refine qv (v := .tuple #[.pointer none, .int .i64 er]) (r_move rfl) ?_
 refine qv (v := .pointer none) (r_extract rfl rfl) ?_
 refine qv (v := .int .i64 er) (r_extract rfl rfl) ?_
 refine qv (v := .pointer none) (r_assign rfl) ?_
 refine qv (v := .int .i64 er) (r_assign rfl) ?_
 refine q_nil ?_
 refine x_seq ?_
 refine s_seq ?_
 refine s_seq ?_
 refine s_region ?_
 refine qv (v := .int .i64 er) (r_move rfl) ?_
 refine qv (v := .bool true) (r_neq rfl rfl (bne_t (he))) ?_
 refine q_nil ?_
 refine x_seq ?_
 refine s_true rfl ?_
 refine s_seq ?_
 refine s_region ?_
 refine qv (v := .agg #[.int .i64 0, .int .u32 0, .bool false, .slice none 0 0, .int .i64 0]) (r_build (ps := []) rfl (by kernel_rfl)) ?_
 refine qv (v := .int .i64 er) (r_move rfl) ?_
 refine qo ?_
 refine e_store (vs := [.int .i64 0, .int .u32 0, .bool false, .slice none 0 0, .int .i64 0]) (cs' := [.int .i64 0, .int .u32 0, .bool false, .slice none 0 0, .int .i64 0]) S4 rfl rfl rfl rfl sz_28 0 rfl (.inl rfl) rfl rfl rfl ?_
 intro w9 S10 E11
 refine qv (v := .int .i64 er) (r_assign rfl) ?_
 refine q_nil ?_
 refine x_seq ?_
 refine s_ret ?_
 refine x_seq_ret ?_
 refine t_retct (cs := [.int .i64 0, .int .u32 0, .bool false, .slice none 0 0, .int .i64 0]) (v' := .int .i64 er) rfl rfl rfl (S10.blk 0 rfl) sz_28 ?_
 exact ⟨rfl, S10.ext.below⟩
set_option maxHeartbeats 8000000 in
set_option maxRecDepth 100000 in
theorem Take_ok {w : World} {b g p : Nat} {ok : Nat → Prop} {qs : List (Option Nat)} {ss : List (Option Slot)} (h : TabAt w b ok g p qs ss) (fd : Int) (h0 : 0 ≤ fd) {q : Nat} (hq : qs[fd.toNat]? = some (some q)) (s0 : Slot) (hs0 : ss[fd.toNat]? = some (some s0)) :
  Calls Try.prog 30 #[.pointer (some ⟨g, 0, none⟩), .int .i64 fd] w fun e w' => ∃ v, e = .returned (.tuple #[.agg #[.int .i64 s0.f0, .int .u32 s0.f1, .bool s0.f2.f0, v, .int .i64 s0.f3], .int .i64 0]) ∧ Kd.R (Kd.int .i64) 3 w' b ok v s0.f2.f1 ∧ TabAt w' b ok g p (qs.set fd.toNat none) (ss.set fd.toNat none) ∧ Ext (fun k => k = p) w w' := by
 have HT := Aside0.mk h
 have HQ := Aside0.mk hq
 have h1 : fd < (qs.length : Int) := by have := (List.getElem?_eq_some_iff.1 hq).1; omega
 have HM := Aside0.mk (show fd.toNat < qs.length by omega)
 obtain ⟨_, _, s1, hs1, A0, c0, hb0, hr0⟩ := h.som fd.toNat q hq
 rw [hs0] at hs1
 obtain rfl := Option.some.inj (Option.some.inj hs1)
 have HR0 := Aside0.mk hr0
 have S0 := tab_st3 h (fun k => k = p) hb0
 have HB := Aside0.mk (Below.refl w.heap.size w)
 clear hs1 hb0 hr0 hq
 refine s_enter (n := 27) (L := [(0, .pointer (some ⟨g, 0, none⟩)), (1, .int .i64 fd)]) Try.func30 rfl rfl rfl rfl ?_
 refine s_seq ?_
 refine s_region ?_
 refine qo ?_
 refine e_alloc S0 zro_28 ?_
 intro g1 w2 hg1 S3 B4
 have HBn := Aside0.mk (below_step HB.out B4)
 clear HB
 have HB := HBn
 clear HBn
 refine qv (v := .int .i64 0) (r_assign rfl) ?_
 refine q_nil ?_
 refine x_seq ?_
 refine s_seq ?_
 refine s_region ?_
 refine qv (v := .pointer (some ⟨g, 0, none⟩)) (r_move rfl) ?_
 refine qv (v := .int .i64 fd) (r_move rfl) ?_
 refine qo ?_
 refine e_call (args := [.pointer (some ⟨g, 0, none⟩), .int .i64 fd]) Try.func36 (by kernel_rfl) rfl rfl ?_
 refine (get_ok (HT.out.below HB.out) fd h0 HQ.out).mono ?_
 rintro e w5 ⟨rfl, rfl⟩
 refine ⟨_, rfl, ?_⟩
 refine qv (v := .tuple #[.pointer (some ⟨q, 0, none⟩), .int .i64 0]) (r_move rfl) ?_
 refine qv (v := .pointer (some ⟨q, 0, none⟩)) (r_extract rfl rfl) ?_
 refine qv (v := .int .i64 0) (r_extract rfl rfl) ?_
 refine qv (v := .pointer (some ⟨q, 0, none⟩)) (r_assign rfl) ?_
 refine qv (v := .int .i64 0) (r_assign rfl) ?_
 refine q_nil ?_
 refine x_seq ?_
 refine s_seq ?_
 refine s_seq ?_
 refine s_region ?_
 refine qv (v := .int .i64 0) (r_move rfl) ?_
 refine qv (v := .bool false) (r_neq rfl rfl (bne_f (by omega))) ?_
 refine q_nil ?_
 refine x_seq ?_
 refine s_false rfl ?_
 refine s_skip ?_
 refine x_seq ?_
 refine s_seq ?_
 refine s_region ?_
 refine qv (v := .pointer (some ⟨g, 0, none⟩)) (r_move rfl) ?_
 refine qv (v := .pointer (some ⟨g, 0, none⟩)) (r_nilCheck rfl) ?_
 refine qv (v := .pointer (some ⟨g, 0, none⟩)) (r_field fld_67_0 rfl rfl) ?_
 refine qv (v := .slice (some ⟨p, 0, none⟩) qs.length qs.length) (r_load1 sz_65 rfl (S3.cell 1 rfl rfl)) ?_
 refine qv (v := .int .i64 fd) (r_move rfl) ?_
 refine qv (v := .pointer (some ⟨p, fd.toNat, none⟩)) (r_index elm_65 rfl rfl (by omega) (by omega) (by omega)) ?_
 refine qo ?_
 refine e_storeAt (cs := qs.map ptrV) (σ' := [⟨g1, true, .cells #[.int .i64 0, .int .u32 0, .bool false, .slice none 0 0, .int .i64 0] 28 (0, 0)⟩, ⟨g, false, .cells #[.slice (some ⟨p, 0, none⟩) qs.length qs.length] 67 (0, 0)⟩, ⟨p, false, (.cells ((qs.set fd.toNat none).map ptrV).toArray 71 (0, 0))⟩, ⟨q, false, .cells #[.int .i64 s0.f0, .int .u32 s0.f1, .bool s0.f2.f0, .slice A0 s0.f2.f1.length c0, .int .i64 s0.f3] 28 (0, 0)⟩]) S3 rfl rfl rfl rfl sz_71 2 rfl (.inr rfl) (by simp; omega) (row_set qs fd.toNat none) rfl ?_
 intro w8 S9 E10
 refine q_nil ?_
 refine x_seq ?_
 refine s_seq ?_
 refine s_region ?_
 refine qv (v := .pointer (some ⟨q, 0, none⟩)) (r_move rfl) ?_
 refine qv (v := .pointer (some ⟨q, 0, none⟩)) (r_nilCheck rfl) ?_
 refine qv (v := .agg #[.int .i64 s0.f0, .int .u32 s0.f1, .bool s0.f2.f0, .slice A0 s0.f2.f1.length c0, .int .i64 s0.f3]) (r_loadN (vs := [.int .i64 s0.f0, .int .u32 s0.f1, .bool s0.f2.f0, .slice A0 s0.f2.f1.length c0, .int .i64 s0.f3]) sz_28 rfl (S9.blk 3 rfl) rfl rfl) ?_
 refine qo ?_
 refine e_store (vs := [.int .i64 s0.f0, .int .u32 s0.f1, .bool s0.f2.f0, .slice A0 s0.f2.f1.length c0, .int .i64 s0.f3]) (cs' := [.int .i64 s0.f0, .int .u32 s0.f1, .bool s0.f2.f0, .slice A0 s0.f2.f1.length c0, .int .i64 s0.f3]) S9 rfl rfl rfl rfl sz_28 0 rfl (.inl rfl) rfl rfl rfl ?_
 intro w11 S12 E13
 refine qv (v := .int .i64 0) (r_assign rfl) ?_
 refine q_nil ?_
 refine x_seq ?_
 refine s_ret ?_
 refine t_retct (cs := [.int .i64 s0.f0, .int .u32 s0.f1, .bool s0.f2.f0, .slice A0 s0.f2.f1.length c0, .int .i64 s0.f3]) (v' := .int .i64 0) rfl rfl rfl (S12.blk 0 rfl) sz_28 ?_
 exact ⟨_, rfl, Kd.R_mono (Kd.R_step (Kd.R_types HR0.out HT.out.row (by decide)) (fun k hk h2 => S12.ext.block k h2 hk.2)) (fun _ h => h.1), HT.out.at_row HM.out none none (fun k hk h1 h2 => S12.ext.block k h1 h2) (S12.blk 2 rfl) (.inl ⟨rfl, rfl⟩), S12.ext⟩
end Go.Proofs.Ytilfalpfanaanaa.PA

namespace Go.Proofs.Ytilfalpfanaanaa.PA
open Go.RowKit Go.Proofs.YtilfalpfanaanaaW.PrintWords Go.Proofs.YtilfalpfanaanaaW.PrintLast Go.Proofs.YtilfalpfanaanaaW.PrintMore
attribute [local go_sem] max2_int min2_int max_two min_two max_three min_three max_four min_four   -- for this text's walks alone
def purlieuref02_Own.f (a0_0 : Bool) (l0_1 : List Int) : Option (Bool × List Int) := (some (([] : List Int) : List Int)).bind fun y188 => (if y188.length + l0_1.length < 17592186044416 then (some (a0_0, (y188 ++ l0_1))) else (none))
def purlieuref02_Own.T1 : Bool × List (List Nat × List Nat) := (true, [([], []), ([0], [0]), ([], []), ([], []), ([3], [3]), ([2, 4], [2, 4]), ([1, 5], [1, 5]), ([6, 5, 0, 1, 2, 3, 4, 5, 6], [6])])
def purlieuref02_Own.B1 : List Nat := [0, 1, 0, 0, 8, 28, 63, 127]
theorem purlieuref02_Own.tab1 : rtab .any (opsOf Try.f38 1) = purlieuref02_Own.T1 := by kernel_rfl
theorem purlieuref02_Own.bits1 : waitsOk purlieuref02_Own.T1.2 purlieuref02_Own.B1 = true := by kernel_rfl
set_option maxHeartbeats 8000000 in
set_option maxRecDepth 100000 in
theorem purlieuref02_Own.calls (a0_0 : Bool) (A0_1 : Option Addr) (c0_1 : Nat) (l0_1 : List Int) (r1 : Bool) (r2 : List Int) (w : World) (hr0_1 : Kd.C (Kd.int .i64) w A0_1 l0_1.length l0_1) (hc0_1 : l0_1.length ≤ c0_1) (h : purlieuref02_Own.f a0_0 l0_1 = some (r1, r2)) :
    Calls Try.prog 38 #[.agg #[.bool a0_0, .slice A0_1 l0_1.length c0_1]] w fun e w' => ∃ v1_ : Value, e = .returned (.agg #[.bool r1, v1_]) ∧ Kd.R (Kd.int .i64) 3 w' w.heap.size (fun _ => True) v1_ r2 ∧ Below w.heap.size w w' := by
  have hu26 := Try.underlying26
  have HR0_1 := Aside0.mk hr0_1
  have HC0_1 := Aside0.mk hc0_1
  clear hr0_1 hc0_1
  have HB := Aside0.mk (Below.refl w.heap.size w)
  have H : ((some (([] : List Int) : List Int)).bind fun y188 => (if y188.length + l0_1.length < 17592186044416 then (some (a0_0, (y188 ++ l0_1))) else (none))) = some (r1, r2) := h
  clear h
  obtain ⟨y188, hy188⟩ : ∃ y_ : List Int, y_ = (([] : List Int)) := ⟨_, rfl⟩
  replace H : (if y188.length + l0_1.length < 17592186044416 then (some (a0_0, (y188 ++ l0_1))) else (none)) = some (r1, r2) := by first | (rw [hy188]; with_reducible exact H) | (have H2_ := (Option.bind_some _ _).symm.trans H; rw [hy188]; with_reducible exact H2_) | (have H2_ := (Option.bind_some _ _).symm.trans H; with_reducible exact H2_) | with_reducible exact H | (rw [hy188]; exact H) | exact H
  have Ny188 := Aside0.mk hy188
  clear hy188
  by_cases c2 : y188.length + l0_1.length < 17592186044416
  · rw [if_pos c2] at H
    have LMc2 := Aside0.mk c2
    clear c2
    obtain ⟨y191, hy191⟩ : ∃ y_ : List Int, y_ = (y188 ++ l0_1) := ⟨_, rfl⟩
    replace H : (some (a0_0, y191)) = some (r1, r2) := by first | (rw [hy191]; with_reducible exact H) | (have H2_ := (Option.bind_some _ _).symm.trans H; rw [hy191]; with_reducible exact H2_) | (have H2_ := (Option.bind_some _ _).symm.trans H; with_reducible exact H2_) | with_reducible exact H | (rw [hy191]; exact H) | exact H
    have Ny191 := Aside0.mk hy191
    clear hy191
    simp only [Option.some.injEq, Prod.mk.injEq] at H
    obtain ⟨rfl, rfl⟩ := H
    go_enter Try.func38, Try.ntmps38
    try go_wp2_with (first | ((with_reducible refine gate_dst (N := 1) rfl ?_); refine box_event ?hg (N := 1) ?hd (cs := #[.bool a0_0, .slice A0_1 l0_1.length c0_1]) (t := 26) ?hr ?_; (case hd => rfl); (case hg => rfl); (case hr => first | (go_simp; done) | (go_simp; rfl)); intro gb186 hg w3 hbox hb; have n0_ := Aside0.mk (below_step (by repeat (first | (with_reducible first | exact HB.out | apply below_alloc | apply pw_below_drewN | apply below_drew1) | exact HB.out)) hb); have n1_ := Aside0.mk (hbox); have n2_ := Aside0.mk ((by rw [hg]; exact (below_size (by repeat (first | (with_reducible first | exact HB.out | apply below_alloc | apply pw_below_drewN | apply below_drew1) | exact HB.out))) : w.heap.size ≤ gb186)); have n3_ := Aside0.mk ((by rw [hg]; exact (below_size (by repeat (first | (with_reducible first | exact HB.out | apply below_alloc | apply pw_below_drewN | apply below_drew1) | exact HB.out))) : w.heap.size ≤ gb186)); clear HB; have HB := n0_; have BK186 := n1_; have GW186 := n2_; have GE186 := n3_; clear n0_ n1_ n2_ n3_; clear hb hbox hg) | ((with_reducible refine gate_dst (N := 2) rfl ?_); refine box_event ?hg (N := 2) ?hd (cs := #[.bool false, .slice none 0 0]) (t := 26) ?hr ?_; (case hd => rfl); (case hg => rfl); (case hr => first | (go_simp; done) | (go_simp; rfl)); intro gb187 hg w4 hbox hb; have n0_ := Aside0.mk (blk_below (g := gb186) (o := .cells #[.bool a0_0, .slice A0_1 l0_1.length c0_1] 26 (0, 0)) (by (with_reducible repeat (first | refine blk_drewN ?_ _ | refine blk_drew ?_ | refine blk_alloc ?_ _)); exact BK186.out) hb); have n1_ := Aside0.mk (below_step (by repeat (first | (with_reducible first | exact HB.out | apply below_alloc | apply pw_below_drewN | apply below_drew1 | refine below_set ?_ GE186.out) | exact HB.out)) hb); have n2_ := Aside0.mk (hbox); have n3_ := Aside0.mk ((by rw [hg]; exact (below_size (by repeat (first | (with_reducible first | exact HB.out | apply below_alloc | apply pw_below_drewN | apply below_drew1 | refine below_set ?_ GE186.out) | exact HB.out))) : w.heap.size ≤ gb187)); have n4_ := Aside0.mk ((by rw [hg]; exact (below_size (by repeat (first | (with_reducible first | exact HB.out | apply below_alloc | apply pw_below_drewN | apply below_drew1 | refine below_set ?_ GE186.out) | exact HB.out))) : w.heap.size ≤ gb187)); have n5_ := Aside0.mk ((by rw [hg]; exact Nat.ne_of_lt (blk_lt (g := gb186) (o := .cells #[.bool a0_0, .slice A0_1 l0_1.length c0_1] 26 (0, 0)) (by (with_reducible repeat (first | refine blk_drewN ?_ _ | refine blk_drew ?_ | refine blk_alloc ?_ _)); exact BK186.out)) : gb186 ≠ gb187)); have n6_ := Aside0.mk ((by rw [hg]; exact Nat.ne_of_gt (blk_lt (g := gb186) (o := .cells #[.bool a0_0, .slice A0_1 l0_1.length c0_1] 26 (0, 0)) (by (with_reducible repeat (first | refine blk_drewN ?_ _ | refine blk_drew ?_ | refine blk_alloc ?_ _)); exact BK186.out)) : gb187 ≠ gb186)); clear BK186; clear HB; have BK186 := n0_; have HB := n1_; have BK187 := n2_; have GW187 := n3_; have GE187 := n4_; have NB186_187 := n5_; have NB187_186 := n6_; clear n0_ n1_ n2_ n3_ n4_ n5_ n6_; clear hb hbox hg))
    have n0_ := Aside0.mk (blk_drew BK186.out)
    have n1_ := Aside0.mk (blk_drew BK187.out)
    have n2_ := Aside0.mk (below_drew1 HB.out)
    clear BK186
    clear BK187
    clear HB
    have BK186 := n0_
    have BK187 := n1_
    have HB := n2_
    clear n0_ n1_ n2_
    refine start_ (n := 8) (S := fun w' => w'.cell? ⟨gb186, 0, none⟩ = some (.bool a0_0) ∧ w'.cell? ⟨gb186, 1, none⟩ = some (.slice A0_1 l0_1.length c0_1)) (ds := []) #[false, false, false, false, false, false, false, false] (by kernel_rfl) rfl rfl ⟨(blk_cell BK186.out 0).trans rfl, (blk_cell BK186.out 1).trans rfl⟩ (fun hHeld => ?_); refine with_tabW purlieuref02_Own.tab1 purlieuref02_Own.bits1 (fun HT_ HW_ => ?_)
    generalize w4.drew = w5 at BK186 BK187 HB hHeld ⊢
    refine pure_ (i := 0) (N := some 3) (v := ?_) (a' := ?_) #[true, false, false, false, false, false, false, false] rfl rfl (any_of HT_.out (by kernel_rfl)) (fun _ _ _ h => h) (Or.inl ⟨by rfl, ?_⟩) ?_ ?_
    rotate_left
    · intro w'
      go_simp
      with_reducible rfl
    rotate_left
    · simp only [Act.put, List.setIfInBounds_toArray, List.set_cons_zero, List.set_cons_succ, i64_w, i32_w]
      rfl
    refine pure_ (i := 3) (N := some 6) (v := ?_) (a' := ?_) #[true, false, false, true, false, false, false, false] rfl rfl (any_of HT_.out (by kernel_rfl)) (fun _ _ _ h => h) (Or.inl ⟨by rfl, ?_⟩) ?_ ?_
    rotate_left
    · intro w'
      go_simp
      with_reducible rfl
    rotate_left
    · simp only [Act.put, List.setIfInBounds_toArray, List.set_cons_zero, List.set_cons_succ, i64_w, i32_w]
      rfl
    refine take_ (i := 1) (N := some 4) (v := ?_) (a' := ?_) #[true, true, false, true, false, false, false, false] rfl rfl (take_ofW HT_.out HW_.out (by kernel_rfl)) (fun _ _ _ h => h) (Or.inl ⟨by rfl, ?_⟩) hHeld ?_ ?_
    rotate_left
    · rintro w' ⟨s0, s1⟩
      go_simp
      with_reducible rfl
    rotate_left
    · simp only [Act.put, List.setIfInBounds_toArray, List.set_cons_zero, List.set_cons_succ, i64_w, i32_w]
      rfl
    refine take_ (i := 4) (N := some 7) (v := ?_) (a' := ?_) #[true, true, false, true, true, false, false, false] rfl rfl (take_ofW HT_.out HW_.out (by kernel_rfl)) (fun _ _ _ h => h) (Or.inl ⟨by rfl, ?_⟩) hHeld ?_ ?_
    rotate_left
    · rintro w' ⟨s0, s1⟩
      go_simp
      with_reducible rfl
    rotate_left
    · simp only [Act.put, List.setIfInBounds_toArray, List.set_cons_zero, List.set_cons_succ, i64_w, i32_w]
      rfl
    refine one_ (i := 2) (N := some 5) #[true, true, true, true, true, false, false, false] rfl rfl (one_of HT_.out (by kernel_rfl)) (by decide) (fun K hK => ?_)
    refine Kd.R_lit_step (Kd.int .i64) _ 3 ?hg (N := 5) ?hd (xs := ([] : List Int)) (inner := []) (ok := fun _ => True) (okp := fun _ => True) ?hr ?hp (fun _ hk => hk) trivial (Below.refl _ _) (Nat.le_refl _) (by simp) ?_; (case hd => rfl); (case hg => rfl); (case hr => first | (go_simp; done) | (go_simp; rfl)); (case hp => exact (Reps.none _ _))
    intro v189 w6 ho7 hb hg_ hnew_
    clear hg_ hnew_
    (first | rw [← Ny188.out] at ho7 | (simp only [Int.reduceToNat] at ho7; rw [← Ny188.out] at ho7))
    have n0_ := Aside0.mk (Kd.R_lower ho7 (below_size (by repeat (first | (with_reducible first | exact HB.out | apply below_alloc | apply pw_below_drewN | apply below_drew1 | refine below_set ?_ GE186.out | refine below_set ?_ GE187.out) | exact HB.out))))
    have n1_ := Aside0.mk (blk_below (g := gb186) (o := .cells #[.bool a0_0, .slice A0_1 l0_1.length c0_1] 26 (0, 0)) (by (with_reducible repeat (first | refine blk_drewN ?_ _ | refine blk_drew ?_ | refine blk_alloc ?_ _)); exact BK186.out) hb)
    have n2_ := Aside0.mk (blk_below (g := gb187) (o := .cells #[.bool false, .slice none 0 0] 26 (0, 0)) (by (with_reducible repeat (first | refine blk_drewN ?_ _ | refine blk_drew ?_ | refine blk_alloc ?_ _)); exact BK187.out) hb)
    have n3_ := Aside0.mk (below_step (by repeat (first | (with_reducible first | exact HB.out | apply below_alloc | apply pw_below_drewN | apply below_drew1 | refine below_set ?_ GE186.out | refine below_set ?_ GE187.out) | exact HB.out)) hb)
    clear BK186
    clear BK187
    clear HB
    have HO190 := n0_
    have BK186 := n1_
    have BK187 := n2_
    have HB := n3_
    clear n0_ n1_ n2_ n3_
    clear hb ho7
    refine hK.out _ _ ⟨(blk_cell BK186.out 0).trans rfl, (blk_cell BK186.out 1).trans rfl⟩ (fun hHeld => ?_)
    clear hK K
    refine norm_ (a' := ?_) ?_ ?_
    rotate_left
    · show Act.put _ (some 5) _ = _
      simp only [Act.put, List.setIfInBounds_toArray, List.set_cons_zero, List.set_cons_succ, i64_w, i32_w]
      rfl
    refine one_ (i := 5) (N := some 8) #[true, true, true, true, true, true, false, false] rfl rfl (one_of HT_.out (by kernel_rfl)) (by decide) (fun K hK => ?_)
    refine Kd.R_append_rows_step (Kd.int .i64) (w0 := w) w.heap.size (by rfl) (.tmp 5) (.tmp 7) 24 3 (.int .i64 0) 8 rfl Try.underlying24 info3 rfl (by decide) (by omega) v189 y188 l0_1 _ _ _ (fun _ => True) (fun _ => False) rfl rfl ?aO ?aR (fun _ _ h => h) (fun _ h => h.elim) ?aF ?aB ?aS ?aL ?_
    (case aR => repeat (first | exact (Kd.C_below HR0_1.out HB.out) | (with_reducible refine Kd.C_alloc ?_ _) | (with_reducible refine Kd.C_drewN ?_ _) | (with_reducible refine Kd.C_drew ?_)))
    (case aB => exact (by repeat (first | (with_reducible first | exact HB.out | apply below_alloc | apply pw_below_drewN | apply below_drew1 | refine below_set ?_ GE186.out | refine below_set ?_ GE187.out) | exact HB.out)))
    (case aF => exact (fun _ _ => trivial))
    (case aO => exact (by (with_reducible repeat (first | apply Kd.R_alloc | apply Kd.R_drewN | apply Kd.R_drew)); exact HO190.out))
    (case aS => exact (below_size (by repeat (first | (with_reducible first | exact HB.out | apply below_alloc | apply pw_below_drewN | apply below_drew1 | refine below_set ?_ GE186.out | refine below_set ?_ GE187.out) | exact HB.out))))
    (case aL => have := LMc2.out; omega)
    intro v192 w8 ho hb hg hat
    rw [← Ny191.out] at ho
    have n0_ := Aside0.mk (blk_grown (g := gb186) (o := .cells #[.bool a0_0, .slice A0_1 l0_1.length c0_1] 26 (0, 0)) (by (with_reducible repeat (first | refine blk_drewN ?_ _ | refine blk_drew ?_ | refine blk_alloc ?_ _)); exact BK186.out) hg (Kd.R_ne HO190.out BK186.out (by decide)))
    have n1_ := Aside0.mk (blk_grown (g := gb187) (o := .cells #[.bool false, .slice none 0 0] 26 (0, 0)) (by (with_reducible repeat (first | refine blk_drewN ?_ _ | refine blk_drew ?_ | refine blk_alloc ?_ _)); exact BK187.out) hg (Kd.R_ne HO190.out BK187.out (by decide)))
    have n2_ := Aside0.mk (hb)
    have n3_ := Aside0.mk (ho)
    clear BK186
    clear BK187
    clear HB
    clear HO190
    have BK186 := n0_
    have BK187 := n1_
    have HB := n2_
    have HO193 := n3_
    clear n0_ n1_ n2_ n3_
    clear ho hb hg hat
    obtain ⟨Ao9, co9, eo9⟩ := Kd.R_slice HO193.out
    (first | subst eo9 | (injection eo9 with f1_ f2_ f3_; have f4_ := f1_.symm; have f5_ := f3_.symm; clear f1_ f2_ f3_; subst f4_; subst f5_))
    refine hK.out _ _ ⟨(blk_cell BK186.out 0).trans rfl, (blk_cell BK186.out 1).trans rfl⟩ (fun hHeld => ?_)
    clear hK K
    refine norm_ (a' := ?_) ?_ ?_
    rotate_left
    · show Act.put _ (some 8) _ = _
      simp only [Act.put, List.setIfInBounds_toArray, List.set_cons_zero, List.set_cons_succ, i64_w, i32_w]
      rfl
    refine pure_ (i := 6) (N := some 9) (v := ?_) (a' := ?_) #[true, true, true, true, true, true, true, false] rfl rfl (any_of HT_.out (by kernel_rfl)) (fun _ _ _ h => h) (Or.inl ⟨by rfl, ?_⟩) ?_ ?_
    rotate_left
    · intro w'
      go_simp
      with_reducible rfl
    rotate_left
    · simp only [Act.put, List.setIfInBounds_toArray, List.set_cons_zero, List.set_cons_succ, i64_w, i32_w]
      rfl
    refine one_ (i := 7) (N := none) #[true, true, true, true, true, true, true, true] rfl rfl (one_of HT_.out (by kernel_rfl)) (by decide) (fun K hK => ?_)
    have hs10 : w8.cell? ⟨gb187, 0, none⟩ = some (.bool false) := (blk_cell BK187.out 0).trans rfl
    have hfs10 := blk_frozen BK187.out 0
    have hns10_0 := NB186_187.out
    have hms10_0 := NB187_186.out
    have hs11 : w8.cell? ⟨gb187, 1, none⟩ = some (.slice none 0 0) := (blk_cell BK187.out 1).trans rfl
    have hfs11 := blk_frozen BK187.out 1
    have hns11_0 := NB186_187.out
    have hms11_0 := NB187_186.out
    refine skip_ (w1 := ?_) (by rfl) rfl ?_ ?_
    rotate_left
    · go_simp
      rfl
    refine hK.out _ _ ⟨((cell_far (p := ⟨gb187, _, none⟩) NB186_187.out _).trans (((cell_far (p := ⟨gb187, _, none⟩) NB186_187.out _).trans (hHeld.1)))), ((cell_far (p := ⟨gb187, _, none⟩) NB186_187.out _).trans (((cell_far (p := ⟨gb187, _, none⟩) NB186_187.out _).trans (hHeld.2))))⟩ (fun hHeld => ?_)
    clear hK K
    refine done_ (done_of HT_.out (by kernel_rfl)) ?_
    try go_wp2
    refine bodyPost_ret (results_cell_row rfl _ _ gb187 26 #[.bool a0_0, .slice Ao9 y191.length co9] (0, 0) _ rfl (by (with_reducible repeat (first | refine blk_drewN ?_ _ | refine blk_drew ?_ | refine blk_alloc ?_ _)); refine blk_put (cs := #[.bool a0_0, .slice none 0 0]) ?_ 1 _ rfl; (with_reducible repeat (first | refine blk_drewN ?_ _ | refine blk_drew ?_ | refine blk_alloc ?_ _)); refine blk_put (cs := #[.bool false, .slice none 0 0]) ?_ 0 _ rfl; (with_reducible repeat (first | refine blk_drewN ?_ _ | refine blk_drew ?_ | refine blk_alloc ?_ _)); exact BK187.out) Try.underlying26 rfl (by kernel_rfl)) rfl ?_
    exact ⟨_, by first | rfl | (simp [errW_none, errW_some] <;> rfl) | (simp [*, errW_none, errW_some] <;> rfl), by (with_reducible repeat (first | apply Kd.R_alloc | apply Kd.R_drewN | apply Kd.R_drew)); exact Kd.R_mono (Kd.R_far (p := ⟨gb187, 1, none⟩) (Kd.R_far (p := ⟨gb187, 0, none⟩) (Kd.R_types HO193.out BK187.out (by decide)) (fun _ hk => hk.2) (.bool a0_0)) (fun _ hk => hk.2) (.slice Ao9 y191.length co9)) (fun _ hk => trivial), by repeat (first | (with_reducible first | exact HB.out | apply below_alloc | apply pw_below_drewN | apply below_drew1 | refine below_set ?_ GE186.out | refine below_set ?_ GE187.out) | exact HB.out)⟩
  · rw [if_neg c2] at H
    exact absurd H (by simp)
def cmp_isNaN_int.f (a0 : Int) : Option (Bool) := some (a0 != a0)
set_option maxHeartbeats 8000000 in
set_option maxRecDepth 100000 in
theorem cmp_isNaN_int.calls (a0 : Int) (r : Bool) (w : World) (h : cmp_isNaN_int.f a0 = some r) :
    Calls Try.prog 90 #[.int .i64 a0] w fun e w' => e = .returned (.bool r) ∧ Drawn0 w w' := by
  have H : (some (a0 != a0)) = some r := h
  clear h
  obtain rfl := Option.some.inj H
  go_enter Try.func90, Try.ntmps90
  go_wp2
  go_ret
  exact ⟨by first | rfl | (simp; done) | (simp [*]; done), by repeat (first | exact Drawn0.refl _ | apply Drawn0.step)⟩
end Go.Proofs.Ytilfalpfanaanaa.PA

namespace Go.Proofs.Ytilfalpfanaanaa.PA
open Go.RowKit Go.Proofs.YtilfalpfanaanaaW.PrintWords Go.Proofs.YtilfalpfanaanaaW.PrintLast Go.Proofs.YtilfalpfanaanaaW.PrintMore
attribute [local go_sem] max2_int min2_int max_two min_two max_three min_three max_four min_four   -- for this text's walks alone
def cmp_Less_int.f (a0 : Int) (a1 : Int) : Option (Bool) := (cmp_isNaN_int.f a0).bind fun t194 => (if t194 = true then ((cmp_isNaN_int.f a1).bind fun t195 => (if t195 = true then (some (decide (a0 < a1))) else (some true))) else (some (decide (a0 < a1))))
set_option maxHeartbeats 8000000 in
set_option maxRecDepth 100000 in
theorem cmp_Less_int.calls (a0 : Int) (a1 : Int) (r : Bool) (w : World) (h : cmp_Less_int.f a0 a1 = some r) :
    Calls Try.prog 79 #[.int .i64 a0, .int .i64 a1] w fun e w' => e = .returned (.bool r) ∧ Drawn0 w w' := by
  have H : ((cmp_isNaN_int.f a0).bind fun t194 => (if t194 = true then ((cmp_isNaN_int.f a1).bind fun t195 => (if t195 = true then (some (decide (a0 < a1))) else (some true))) else (some (decide (a0 < a1))))) = some r := h
  clear h
  replace H := Option.bind_eq_some_iff.mp H
  obtain ⟨t194, A30, H⟩ := H
  replace H : (if t194 = true then ((cmp_isNaN_int.f a1).bind fun t195 => (if t195 = true then (some (decide (a0 < a1))) else (some true))) else (some (decide (a0 < a1)))) = some r := H
  have A3 := Aside0.mk A30
  clear A30
  by_cases c4 : t194 = true
  · subst c4
    have H1 : ((cmp_isNaN_int.f a1).bind fun t195 => (if t195 = true then (some (decide (a0 < a1))) else (some true))) = some r := by rw [if_pos rfl] at H; exact H
    clear H
    have H := H1
    clear H1
    replace H := Option.bind_eq_some_iff.mp H
    obtain ⟨t195, A50, H⟩ := H
    replace H : (if t195 = true then (some (decide (a0 < a1))) else (some true)) = some r := H
    have A5 := Aside0.mk A50
    clear A50
    by_cases c6 : t195 = true
    · subst c6
      have H1 : (some (decide (a0 < a1))) = some r := by rw [if_pos rfl] at H; exact H
      clear H
      have H := H1
      clear H1
      obtain rfl := Option.some.inj H
      go_enter Try.func79, Try.ntmps79
      go_wp2_with (first | ((with_reducible refine gate_callee (f := 90) rfl ?_); refine goesL_ (some 6) rfl rfl Try.func90 (by kernel_rfl) rfl #[.int .i64 a0] rfl (by (try simp only [List.map_toArray, List.map_cons, List.map_nil]); first | done | rfl | (simp only [List.length_drop, List.length_take]; rfl)) ?_; (with_reducible refine (cmp_isNaN_int.calls a0 true _ A3.out).mono ?_); rintro e w' ⟨rfl, ⟨nd, rfl⟩⟩; refine ⟨_, rfl, ?_⟩) | (go_at_call 90; (with_reducible refine (cmp_isNaN_int.calls a1 true _ A5.out).mono ?_); rintro e w' ⟨rfl, ⟨nd, rfl⟩⟩))
      go_ret
      exact ⟨by first | rfl | (simp; done) | (simp [*]; done), by repeat (first | exact Drawn0.refl _ | apply Drawn0.step)⟩
    · replace c6 := Bool.eq_false_iff.mpr c6
      subst c6
      have H1 : (some true) = some r := by rw [if_neg (show ¬ (false = true) by decide)] at H; exact H
      clear H
      have H := H1
      clear H1
      obtain rfl := Option.some.inj H
      go_enter Try.func79, Try.ntmps79
      go_wp2_with (first | ((with_reducible refine gate_callee (f := 90) rfl ?_); refine goesL_ (some 6) rfl rfl Try.func90 (by kernel_rfl) rfl #[.int .i64 a0] rfl (by (try simp only [List.map_toArray, List.map_cons, List.map_nil]); first | done | rfl | (simp only [List.length_drop, List.length_take]; rfl)) ?_; (with_reducible refine (cmp_isNaN_int.calls a0 true _ A3.out).mono ?_); rintro e w' ⟨rfl, ⟨nd, rfl⟩⟩; refine ⟨_, rfl, ?_⟩) | (go_at_call 90; (with_reducible refine (cmp_isNaN_int.calls a1 false _ A5.out).mono ?_); rintro e w' ⟨rfl, ⟨nd, rfl⟩⟩))
      go_ret
      exact ⟨by first | rfl | (simp; done) | (simp [*]; done), by repeat (first | exact Drawn0.refl _ | apply Drawn0.step)⟩
  · replace c4 := Bool.eq_false_iff.mpr c4
    subst c4
    have H1 : (some (decide (a0 < a1))) = some r := by rw [if_neg (show ¬ (false = true) by decide)] at H; exact H
    clear H
    have H := H1
    clear H1
    obtain rfl := Option.some.inj H
    go_enter Try.func79, Try.ntmps79
    go_wp2_with (first | ((with_reducible refine gate_callee (f := 90) rfl ?_); refine goesL_ (some 6) rfl rfl Try.func90 (by kernel_rfl) rfl #[.int .i64 a0] rfl (by (try simp only [List.map_toArray, List.map_cons, List.map_nil]); first | done | rfl | (simp only [List.length_drop, List.length_take]; rfl)) ?_; (with_reducible refine (cmp_isNaN_int.calls a0 false _ A3.out).mono ?_); rintro e w' ⟨rfl, ⟨nd, rfl⟩⟩; refine ⟨_, rfl, ?_⟩))
    go_ret
    exact ⟨by first | rfl | (simp; done) | (simp [*]; done), by repeat (first | exact Drawn0.refl _ | apply Drawn0.step)⟩
def slices_isNaN_int.f (a0 : Int) : Option (Bool) := some (a0 != a0)
set_option maxHeartbeats 8000000 in
set_option maxRecDepth 100000 in
theorem slices_isNaN_int.calls (a0 : Int) (r : Bool) (w : World) (h : slices_isNaN_int.f a0 = some r) :
    Calls Try.prog 84 #[.int .i64 a0] w fun e w' => e = .returned (.bool r) ∧ Drawn0 w w' := by
  have H : (some (a0 != a0)) = some r := h
  clear h
  obtain rfl := Option.some.inj H
  go_enter Try.func84, Try.ntmps84
  go_wp2
  go_ret
  exact ⟨by first | rfl | (simp; done) | (simp [*]; done), by repeat (first | exact Drawn0.refl _ | apply Drawn0.step)⟩
end Go.Proofs.Ytilfalpfanaanaa.PA

namespace Go.Proofs.Ytilfalpfanaanaa.PA
open Go.RowKit Go.Proofs.YtilfalpfanaanaaW.PrintWords Go.Proofs.YtilfalpfanaanaaW.PrintLast Go.Proofs.YtilfalpfanaanaaW.PrintMore
attribute [local go_sem] max2_int min2_int max_two min_two max_three min_three max_four min_four   -- for this text's walks alone
def slices_BinarySearch_int_int.l0 : Nat → List Int → Int → Int → Int → Int → Option (Int × Bool)
  | 0, _, _, _, _, _ => none
  | k + 1, x0, x1, x6, x7, x8 => if x7 < x8 then (if 0 ≤ (wrap64 ((IntKind.u64.wrap (wrap64 (x7 + x8))) / 2)) then (if (wrap64 ((IntKind.u64.wrap (wrap64 (x7 + x8))) / 2)) < (x0.length : Int) then ((cmp_Less_int.f (rd x0 (wrap64 ((IntKind.u64.wrap (wrap64 (x7 + x8))) / 2))) x1).bind fun t197 => (if t197 = true then (slices_BinarySearch_int_int.l0 k x0 x1 x6 (wrap64 ((wrap64 ((IntKind.u64.wrap (wrap64 (x7 + x8))) / 2)) + 1)) x8) else (slices_BinarySearch_int_int.l0 k x0 x1 x6 x7 (wrap64 ((IntKind.u64.wrap (wrap64 (x7 + x8))) / 2))))) else (none)) else (none)) else (if x7 < x6 then (if 0 ≤ x7 then (if x7 < (x0.length : Int) then (if (rd x0 x7) = x1 then (some (x7, true)) else ((slices_isNaN_int.f (rd x0 x7)).bind fun t200 => (if t200 = true then ((slices_isNaN_int.f x1).bind fun t201 => (some (x7, t201))) else (some (x7, false))))) else (none)) else (none)) else (some (x7, false)))
def slices_BinarySearch_int_int.f (k : Nat) (l0 : List Int) (a1 : Int) : Option (Int × Bool) := slices_BinarySearch_int_int.l0 k l0 a1 (l0.length : Int) 0 (l0.length : Int)
set_option maxHeartbeats 8000000 in
set_option maxRecDepth 100000 in
theorem slices_BinarySearch_int_int.calls (k : Nat) (A0 : Option Addr) (c0 : Nat) (l0 : List Int) (a1 : Int) (r1 : Int) (r2 : Bool) (w : World) (hr0 : Kd.C (Kd.int .i64) w A0 l0.length l0) (hc0 : l0.length ≤ c0) (h : slices_BinarySearch_int_int.f k l0 a1 = some (r1, r2)) :
    Calls Try.prog 72 #[.slice A0 l0.length c0, .int .i64 a1] w fun e w' => e = .returned (.tuple #[.int .i64 r1, .bool r2]) ∧ Drawn0 w w' := by
  have HR0 := Aside0.mk hr0
  have HC0 := Aside0.mk hc0
  clear hr0 hc0
  have H : (slices_BinarySearch_int_int.l0 k l0 a1 (l0.length : Int) 0 (l0.length : Int)) = some (r1, r2) := h
  clear h
  have H' := Aside0.mk H
  clear H
  go_enter Try.func72, Try.ntmps72
  go_wp2
  go_loopg [7, 8] k (fun kq v7 v8 w' => ∃ (x7_1 : Int) (x8_1 : Int), v7 = .int .i64 x7_1 ∧ v8 = .int .i64 x8_1 ∧ Aside0 (slices_BinarySearch_int_int.l0 kq l0 a1 (l0.length : Int) x7_1 x8_1 = some (r1, r2)) ∧ Aside0 (kq ≤ k) ∧ Drawn0 w w')
  case atStart => exact ⟨(0), ((l0.length : Int)), (by first | rfl | (simp; done) | (simp [*]; done)), (by first | rfl | (simp; done) | (simp [*]; done)), H', ⟨Nat.le_refl _⟩, by repeat (first | exact Drawn0.refl _ | apply Drawn0.step)⟩
  case round =>
    clear H'
    try clear p2
    obtain ⟨x7_1, x8_1, rfl, rfl, HA, HK1, ⟨m1, rfl⟩⟩ := hrel
    cases gk with
    | zero => exact absurd HA.out (by simp [slices_BinarySearch_int_int.l0])
    | succ k1 =>
      have H := HA.out
      clear HA
      simp only [slices_BinarySearch_int_int.l0] at H
      by_cases c3 : x7_1 < x8_1
      · rw [if_pos c3] at H
        have c3b0 : decide (x7_1 < x8_1) = true := decide_eq_true c3
        clear c3
        obtain ⟨ji4, hji4⟩ : ∃ j_ : Int, (wrap64 ((IntKind.u64.wrap (wrap64 (x7_1 + x8_1))) / 2)) = j_ := ⟨_, rfl⟩
        replace H : (if 0 ≤ (ji4) then (if (ji4) < (l0.length : Int) then ((cmp_Less_int.f (rd l0 (ji4)) a1).bind fun t197 => (if t197 = true then (slices_BinarySearch_int_int.l0 k1 l0 a1 (l0.length : Int) (wrap64 ((ji4) + 1)) x8_1) else (slices_BinarySearch_int_int.l0 k1 l0 a1 (l0.length : Int) x7_1 ji4))) else (none)) else (none)) = some (r1, r2) := by first | (rw [hji4] at H; exact H) | (simp only [hji4] at H ⊢; exact H)
        have hji4w : (IntKind.i64.wrap ((IntKind.u64.wrap (wrap64 (x7_1 + x8_1))) / 2)) = ji4 := (i64_w _).trans hji4
        by_cases c5 : 0 ≤ (ji4)
        · rw [if_pos c5] at H
          have c5b0 : decide (0 ≤ (ji4)) = true := decide_eq_true c5
          clear c5
          by_cases c6 : (ji4) < (l0.length : Int)
          · rw [if_pos c6] at H
            have c6b0 : decide ((ji4) < (l0.length : Int)) = true := decide_eq_true c6
            clear c6
            replace H := Option.bind_eq_some_iff.mp H
            obtain ⟨t197, A70, H⟩ := H
            replace H : (if t197 = true then (slices_BinarySearch_int_int.l0 k1 l0 a1 (l0.length : Int) (wrap64 ((ji4) + 1)) x8_1) else (slices_BinarySearch_int_int.l0 k1 l0 a1 (l0.length : Int) x7_1 ji4)) = some (r1, r2) := H
            have A7 := Aside0.mk A70
            clear A70
            by_cases c8 : t197 = true
            · subst c8
              have H1 : (slices_BinarySearch_int_int.l0 k1 l0 a1 (l0.length : Int) (wrap64 ((ji4) + 1)) x8_1) = some (r1, r2) := by rw [if_pos rfl] at H; exact H
              clear H
              have H := H1
              clear H1
              have H' := Aside0.mk H
              clear H
              have p196 : 0 ≤ ((ji4) : Int) := of_decide_eq_true (by first | (with_reducible assumption) | assumption)
              have q196 : (ji4) < (l0.length : Int) := of_decide_eq_true (by first | (with_reducible assumption) | assumption)
              obtain ⟨ad196, e196, hx196_0⟩ := Kd.at_int HR0.out (ji4) p196 q196
              cases e196
              replace p196 := eq_true p196
              replace q196 := eq_true q196
              go_wp2_with (first | ((with_reducible refine gate_callee (f := 79) rfl ?_); refine goesL_ (some 27) rfl rfl Try.func79 (by kernel_rfl) rfl #[.int .i64 (rd l0 (ji4)), .int .i64 a1] rfl (by (try simp only [List.map_toArray, List.map_cons, List.map_nil]); first | done | (simp only [hji4]; rfl) | rfl | (simp only [List.length_drop, List.length_take]; rfl)) ?_; (with_reducible refine (cmp_Less_int.calls (rd l0 (ji4)) a1 true _ A7.out).mono ?_); rintro e w' ⟨rfl, ⟨nd, rfl⟩⟩; refine ⟨_, rfl, ?_⟩))
              go_roundg k1
              case measure => have := HK1.out; omega
              case rel => exact ⟨(wrap64 ((ji4) + 1)), (x8_1), (by first | rfl | (simp; done) | (simp only [← hji4] <;> (first | rfl | simp)) | (simp [*]; done)), (by first | rfl | (simp; done) | (simp [*]; done)), H', ⟨by have := HK1.out; omega⟩, by repeat (first | exact Drawn0.refl _ | apply Drawn0.step)⟩
            · replace c8 := Bool.eq_false_iff.mpr c8
              subst c8
              have H1 : (slices_BinarySearch_int_int.l0 k1 l0 a1 (l0.length : Int) x7_1 ji4) = some (r1, r2) := by rw [if_neg (show ¬ (false = true) by decide)] at H; exact H
              clear H
              have H := H1
              clear H1
              have H' := Aside0.mk H
              clear H
              have p196 : 0 ≤ ((ji4) : Int) := of_decide_eq_true (by first | (with_reducible assumption) | assumption)
              have q196 : (ji4) < (l0.length : Int) := of_decide_eq_true (by first | (with_reducible assumption) | assumption)
              obtain ⟨ad196, e196, hx196_0⟩ := Kd.at_int HR0.out (ji4) p196 q196
              cases e196
              replace p196 := eq_true p196
              replace q196 := eq_true q196
              go_wp2_with (first | ((with_reducible refine gate_callee (f := 79) rfl ?_); refine goesL_ (some 27) rfl rfl Try.func79 (by kernel_rfl) rfl #[.int .i64 (rd l0 (ji4)), .int .i64 a1] rfl (by (try simp only [List.map_toArray, List.map_cons, List.map_nil]); first | done | (simp only [hji4]; rfl) | rfl | (simp only [List.length_drop, List.length_take]; rfl)) ?_; (with_reducible refine (cmp_Less_int.calls (rd l0 (ji4)) a1 false _ A7.out).mono ?_); rintro e w' ⟨rfl, ⟨nd, rfl⟩⟩; refine ⟨_, rfl, ?_⟩))
              go_roundg k1
              case measure => have := HK1.out; omega
              case rel => exact ⟨(x7_1), (ji4), (by first | rfl | (simp; done) | (simp [*]; done)), (by first | rfl | (simp; done) | (simp only [← hji4] <;> (first | rfl | simp)) | (simp [*]; done)), H', ⟨by have := HK1.out; omega⟩, by repeat (first | exact Drawn0.refl _ | apply Drawn0.step)⟩
          · rw [if_neg c6] at H
            exact absurd H (by simp)
        · rw [if_neg c5] at H
          exact absurd H (by simp)
      · rw [if_neg c3] at H
        have c3b0 : decide (x7_1 < x8_1) = false := decide_eq_false c3
        clear c3
        by_cases c9 : x7_1 < (l0.length : Int)
        · rw [if_pos c9] at H
          have c9b0 : decide (x7_1 < (l0.length : Int)) = true := decide_eq_true c9
          clear c9
          by_cases c10 : 0 ≤ x7_1
          · rw [if_pos c10] at H
            have c10b0 : decide (0 ≤ x7_1) = true := decide_eq_true c10
            clear c10
            by_cases c11 : x7_1 < (l0.length : Int)
            · rw [if_pos c11] at H
              have c11b0 : decide (x7_1 < (l0.length : Int)) = true := decide_eq_true c11
              clear c11
              by_cases c12 : (rd l0 x7_1) = a1
              · rw [if_pos c12] at H
                have c12b0 : ((rd l0 x7_1) == a1) = true := beq_iff_eq.mpr c12
                have c12b1 : ((rd l0 x7_1) != a1) = false := bne_eq_false_iff_eq.mpr c12
                clear c12
                simp only [Option.some.injEq, Prod.mk.injEq] at H
                obtain ⟨rfl, rfl⟩ := H
                have p198 : 0 ≤ (x7_1 : Int) := of_decide_eq_true (by first | (with_reducible assumption) | assumption)
                have q198 : x7_1 < (l0.length : Int) := of_decide_eq_true (by first | (with_reducible assumption) | assumption)
                obtain ⟨ad198, e198, hx198_0⟩ := Kd.at_int HR0.out x7_1 p198 q198
                cases e198
                replace p198 := eq_true p198
                replace q198 := eq_true q198
                go_wp2
                go_ret2
                exact ⟨by first | rfl | (simp; done) | (simp [*]; done), by repeat (first | exact Drawn0.refl _ | apply Drawn0.step)⟩
              · rw [if_neg c12] at H
                have c12b0 : ((rd l0 x7_1) == a1) = false := beq_eq_false_iff_ne.mpr c12
                have c12b1 : ((rd l0 x7_1) != a1) = true := bne_iff_ne.mpr c12
                replace H := Option.bind_eq_some_iff.mp H
                obtain ⟨t200, A130, H⟩ := H
                replace H : (if t200 = true then ((slices_isNaN_int.f a1).bind fun t201 => (some (x7_1, t201))) else (some (x7_1, false))) = some (r1, r2) := H
                have A13 := Aside0.mk A130
                clear A130
                by_cases c14 : t200 = true
                · subst c14
                  have H1 : ((slices_isNaN_int.f a1).bind fun t201 => (some (x7_1, t201))) = some (r1, r2) := by rw [if_pos rfl] at H; exact H
                  clear H
                  have H := H1
                  clear H1
                  replace H := Option.bind_eq_some_iff.mp H
                  obtain ⟨t201, A150, H⟩ := H
                  replace H : (some (x7_1, t201)) = some (r1, r2) := H
                  have A15 := Aside0.mk A150
                  clear A150
                  simp only [Option.some.injEq, Prod.mk.injEq] at H
                  obtain ⟨rfl, rfl⟩ := H
                  have p198 : 0 ≤ (x7_1 : Int) := of_decide_eq_true (by first | (with_reducible assumption) | assumption)
                  have q198 : x7_1 < (l0.length : Int) := of_decide_eq_true (by first | (with_reducible assumption) | assumption)
                  obtain ⟨ad198, e198, hx198_0⟩ := Kd.at_int HR0.out x7_1 p198 q198
                  cases e198
                  replace p198 := eq_true p198
                  replace q198 := eq_true q198
                  have p199 : 0 ≤ (x7_1 : Int) := of_decide_eq_true (by first | (with_reducible assumption) | assumption)
                  have q199 : x7_1 < (l0.length : Int) := of_decide_eq_true (by first | (with_reducible assumption) | assumption)
                  obtain ⟨ad199, e199, hx199_0⟩ := Kd.at_int HR0.out x7_1 p199 q199
                  obtain rfl : ad198 = ad199 := (by injection e199)
                  replace p199 := eq_true p199
                  replace q199 := eq_true q199
                  go_wp2_with (first | (go_at_call 84; (with_reducible refine (slices_isNaN_int.calls (rd l0 x7_1) true _ A13.out).mono ?_); rintro e w' ⟨rfl, ⟨nd, rfl⟩⟩) | (go_at_call 84; (with_reducible refine (slices_isNaN_int.calls a1 t201 _ A15.out).mono ?_); rintro e w' ⟨rfl, ⟨nd, rfl⟩⟩))
                  go_ret2
                  exact ⟨by first | rfl | (simp; done) | (simp [*]; done), by repeat (first | exact Drawn0.refl _ | apply Drawn0.step)⟩
                · replace c14 := Bool.eq_false_iff.mpr c14
                  subst c14
                  have H1 : (some (x7_1, false)) = some (r1, r2) := by rw [if_neg (show ¬ (false = true) by decide)] at H; exact H
                  clear H
                  have H := H1
                  clear H1
                  simp only [Option.some.injEq, Prod.mk.injEq] at H
                  obtain ⟨rfl, rfl⟩ := H
                  have p198 : 0 ≤ (x7_1 : Int) := of_decide_eq_true (by first | (with_reducible assumption) | assumption)
                  have q198 : x7_1 < (l0.length : Int) := of_decide_eq_true (by first | (with_reducible assumption) | assumption)
                  obtain ⟨ad198, e198, hx198_0⟩ := Kd.at_int HR0.out x7_1 p198 q198
                  cases e198
                  replace p198 := eq_true p198
                  replace q198 := eq_true q198
                  have p199 : 0 ≤ (x7_1 : Int) := of_decide_eq_true (by first | (with_reducible assumption) | assumption)
                  have q199 : x7_1 < (l0.length : Int) := of_decide_eq_true (by first | (with_reducible assumption) | assumption)
                  obtain ⟨ad199, e199, hx199_0⟩ := Kd.at_int HR0.out x7_1 p199 q199
                  obtain rfl : ad198 = ad199 := (by injection e199)
                  replace p199 := eq_true p199
                  replace q199 := eq_true q199
                  go_wp2_with (first | (go_at_call 84; (with_reducible refine (slices_isNaN_int.calls (rd l0 x7_1) false _ A13.out).mono ?_); rintro e w' ⟨rfl, ⟨nd, rfl⟩⟩))
                  go_ret2
                  exact ⟨by first | rfl | (simp; done) | (simp [*]; done), by repeat (first | exact Drawn0.refl _ | apply Drawn0.step)⟩
            · rw [if_neg c11] at H
              exact absurd H (by simp)
          · rw [if_neg c10] at H
            exact absurd H (by simp)
        · rw [if_neg c9] at H
          have c9b0 : decide (x7_1 < (l0.length : Int)) = false := decide_eq_false c9
          clear c9
          simp only [Option.some.injEq, Prod.mk.injEq] at H
          obtain ⟨rfl, rfl⟩ := H
          go_wp2
          go_ret2
          exact ⟨by first | rfl | (simp; done) | (simp [*]; done), by repeat (first | exact Drawn0.refl _ | apply Drawn0.step)⟩
end Go.Proofs.Ytilfalpfanaanaa.PA

namespace Go.Proofs.Ytilfalpfanaanaa.PA
open Go.RowKit Go.Proofs.YtilfalpfanaanaaW.PrintWords Go.Proofs.YtilfalpfanaanaaW.PrintLast Go.Proofs.YtilfalpfanaanaaW.PrintMore
attribute [local go_sem] max2_int min2_int max_two min_two max_three min_three max_four min_four   -- for this text's walks alone
def white_has.f (k : Nat) (a0_0 : Bool) (l0_1 : List Int) (a1 : Int) : Option (Bool) := if a1 < 0 then (some false) else ((white_can.f k a0_0 l0_1).bind fun t203 => (if t203 = true then ((slices_BinarySearch_int_int.f k l0_1 a1).bind fun bt204 => (if bt204.2 = true then (some true) else (some a0_0))) else (some false)))
set_option maxHeartbeats 8000000 in
set_option maxRecDepth 100000 in
theorem white_has.calls (k : Nat) (a0_0 : Bool) (A0_1 : Option Addr) (c0_1 : Nat) (l0_1 : List Int) (a1 : Int) (r : Bool) (w : World) (hr0_1 : Kd.C (Kd.int .i64) w A0_1 l0_1.length l0_1) (hc0_1 : l0_1.length ≤ c0_1) (h : white_has.f k a0_0 l0_1 a1 = some r) :
    Calls Try.prog 66 #[.agg #[.bool a0_0, .slice A0_1 l0_1.length c0_1], .int .i64 a1] w fun e w' => e = .returned (.bool r) ∧ Below w.heap.size w w' := by
  have hu26 := Try.underlying26
  have HR0_1 := Aside0.mk hr0_1
  have HC0_1 := Aside0.mk hc0_1
  clear hr0_1 hc0_1
  have HB := Aside0.mk (Below.refl w.heap.size w)
  have H : (if a1 < 0 then (some false) else ((white_can.f k a0_0 l0_1).bind fun t203 => (if t203 = true then ((slices_BinarySearch_int_int.f k l0_1 a1).bind fun bt204 => (if bt204.2 = true then (some true) else (some a0_0))) else (some false)))) = some r := h
  clear h
  by_cases c3 : a1 < 0
  · rw [if_pos c3] at H
    have c3b0 : decide (a1 < 0) = true := decide_eq_true c3
    clear c3
    obtain rfl := Option.some.inj H
    go_enter Try.func66, Try.ntmps66
    go_wp2_with (first | ((with_reducible refine gate_dst (N := 2) rfl ?_); refine box_event ?hg (N := 2) ?hd (cs := #[.bool a0_0, .slice A0_1 l0_1.length c0_1]) (t := 26) ?hr ?_; (case hd => rfl); (case hg => rfl); (case hr => first | (go_simp; done) | (go_simp; rfl)); intro gb202 hg w4 hbox hb; have n0_ := Aside0.mk (below_step (by repeat (first | (with_reducible first | exact HB.out | apply below_alloc | apply pw_below_drewN | apply below_drew1) | exact HB.out)) hb); have n1_ := Aside0.mk (hbox); have n2_ := Aside0.mk ((by rw [hg]; exact (below_size (by repeat (first | (with_reducible first | exact HB.out | apply below_alloc | apply pw_below_drewN | apply below_drew1) | exact HB.out))) : w.heap.size ≤ gb202)); have n3_ := Aside0.mk ((by rw [hg]; exact (below_size (by repeat (first | (with_reducible first | exact HB.out | apply below_alloc | apply pw_below_drewN | apply below_drew1) | exact HB.out))) : w.heap.size ≤ gb202)); clear HB; have HB := n0_; have BK202 := n1_; have GW202 := n2_; have GE202 := n3_; clear n0_ n1_ n2_ n3_; clear hb hbox hg))
    go_ret
    exact ⟨by first | rfl | (simp [errW_none, errW_some] <;> rfl) | (simp [*, errW_none, errW_some] <;> rfl), by repeat (first | (with_reducible first | exact HB.out | apply below_alloc | apply pw_below_drewN | apply below_drew1 | refine below_set ?_ GE202.out) | exact HB.out)⟩
  · rw [if_neg c3] at H
    have c3b0 : decide (a1 < 0) = false := decide_eq_false c3
    clear c3
    replace H := Option.bind_eq_some_iff.mp H
    obtain ⟨t203, A50, H⟩ := H
    replace H : (if t203 = true then ((slices_BinarySearch_int_int.f k l0_1 a1).bind fun bt204 => (if bt204.2 = true then (some true) else (some a0_0))) else (some false)) = some r := H
    have A5 := Aside0.mk A50
    clear A50
    by_cases c6 : t203 = true
    · subst c6
      have H1 : ((slices_BinarySearch_int_int.f k l0_1 a1).bind fun bt204 => (if bt204.2 = true then (some true) else (some a0_0))) = some r := by rw [if_pos rfl] at H; exact H
      clear H
      have H := H1
      clear H1
      replace H := Option.bind_eq_some_iff.mp H
      obtain ⟨⟨t204, t205⟩, A70, H⟩ := H
      replace H : (if t205 = true then (some true) else (some a0_0)) = some r := H
      have A7 := Aside0.mk A70
      clear A70
      by_cases c8 : t205 = true
      · subst c8
        have H1 : (some true) = some r := by rw [if_pos rfl] at H; exact H
        clear H
        have H := H1
        clear H1
        obtain rfl := Option.some.inj H
        go_enter Try.func66, Try.ntmps66
        go_wp2_with (first | ((with_reducible refine gate_dst (N := 2) rfl ?_); refine box_event ?hg (N := 2) ?hd (cs := #[.bool a0_0, .slice A0_1 l0_1.length c0_1]) (t := 26) ?hr ?_; (case hd => rfl); (case hg => rfl); (case hr => first | (go_simp; done) | (go_simp; rfl)); intro gb202 hg w9 hbox hb; have n0_ := Aside0.mk (below_step (by repeat (first | (with_reducible first | exact HB.out | apply below_alloc | apply pw_below_drewN | apply below_drew1) | exact HB.out)) hb); have n1_ := Aside0.mk (hbox); have n2_ := Aside0.mk ((by rw [hg]; exact (below_size (by repeat (first | (with_reducible first | exact HB.out | apply below_alloc | apply pw_below_drewN | apply below_drew1) | exact HB.out))) : w.heap.size ≤ gb202)); have n3_ := Aside0.mk ((by rw [hg]; exact (below_size (by repeat (first | (with_reducible first | exact HB.out | apply below_alloc | apply pw_below_drewN | apply below_drew1) | exact HB.out))) : w.heap.size ≤ gb202)); clear HB; have HB := n0_; have BK202 := n1_; have GW202 := n2_; have GE202 := n3_; clear n0_ n1_ n2_ n3_; clear hb hbox hg; have hcz10_0 : w9.cell? ⟨gb202, 0, none⟩ = some (.bool a0_0) := (blk_cell BK202.out 0).trans rfl; have hcz10_1 : w9.cell? ⟨gb202, 1, none⟩ = some (.slice A0_1 l0_1.length c0_1) := (blk_cell BK202.out 1).trans rfl; have hfz10_0 := blk_frozen BK202.out 0; have hfz10_1 := blk_frozen BK202.out 1) | (go_at_call 57; (with_reducible refine (white_can.calls k a0_0 _ _ l0_1 true _ ?side1 ?side2 A5.out).mono ?_); (case side1 => repeat (first | exact (Kd.C_below HR0_1.out HB.out) | (with_reducible refine Kd.C_alloc ?_ _) | (with_reducible refine Kd.C_drewN ?_ _) | (with_reducible refine Kd.C_drew ?_))); (case side2 => exact HC0_1.out); rintro e w11 ⟨rfl, hb⟩; have n0_ := Aside0.mk (blk_below (g := gb202) (o := .cells #[.bool a0_0, .slice A0_1 l0_1.length c0_1] 26 (0, 0)) (by (with_reducible repeat (first | refine blk_drewN ?_ _ | refine blk_drew ?_ | refine blk_alloc ?_ _)); exact BK202.out) hb); have n1_ := Aside0.mk (below_step (by repeat (first | (with_reducible first | exact HB.out | apply below_alloc | apply pw_below_drewN | apply below_drew1 | refine below_set ?_ GE202.out) | exact HB.out)) hb); clear BK202; clear HB; have BK202 := n0_; have HB := n1_; clear n0_ n1_; (try clear hb); (try clear hb2); (try clear hk); (try clear hi); have hcz12_0 : w11.cell? ⟨gb202, 0, none⟩ = some (.bool a0_0) := (blk_cell BK202.out 0).trans rfl; have hcz12_1 : w11.cell? ⟨gb202, 1, none⟩ = some (.slice A0_1 l0_1.length c0_1) := (blk_cell BK202.out 1).trans rfl; have hfz12_0 := blk_frozen BK202.out 0; have hfz12_1 := blk_frozen BK202.out 1) | ((with_reducible refine gate_callee (f := 72) rfl ?_); refine goesL_ (some 18) rfl rfl Try.func72 (by kernel_rfl) rfl #[.slice A0_1 l0_1.length c0_1, .int .i64 a1] rfl (by (try simp only [List.map_toArray, List.map_cons, List.map_nil]); first | done | rfl | (simp only [List.length_drop, List.length_take]; rfl)) ?_; (with_reducible refine (slices_BinarySearch_int_int.calls k _ _ l0_1 a1 t204 true _ ?side1 ?side2 A7.out).mono ?_); (case side1 => repeat (first | exact (Kd.C_below HR0_1.out HB.out) | (with_reducible refine Kd.C_alloc ?_ _) | (with_reducible refine Kd.C_drewN ?_ _) | (with_reducible refine Kd.C_drew ?_))); (case side2 => exact HC0_1.out); rintro e w' ⟨rfl, ⟨nd, rfl⟩⟩; refine ⟨_, rfl, ?_⟩))
        go_ret
        exact ⟨by first | rfl | (simp [errW_none, errW_some] <;> rfl) | (simp [*, errW_none, errW_some] <;> rfl), by repeat (first | (with_reducible first | exact HB.out | apply below_alloc | apply pw_below_drewN | apply below_drew1 | refine below_set ?_ GE202.out) | exact HB.out)⟩
      · replace c8 := Bool.eq_false_iff.mpr c8
        subst c8
        have H1 : (some a0_0) = some r := by rw [if_neg (show ¬ (false = true) by decide)] at H; exact H
        clear H
        have H := H1
        clear H1
        obtain rfl := Option.some.inj H
        go_enter Try.func66, Try.ntmps66
        go_wp2_with (first | ((with_reducible refine gate_dst (N := 2) rfl ?_); refine box_event ?hg (N := 2) ?hd (cs := #[.bool a0_0, .slice A0_1 l0_1.length c0_1]) (t := 26) ?hr ?_; (case hd => rfl); (case hg => rfl); (case hr => first | (go_simp; done) | (go_simp; rfl)); intro gb202 hg w13 hbox hb; have n0_ := Aside0.mk (below_step (by repeat (first | (with_reducible first | exact HB.out | apply below_alloc | apply pw_below_drewN | apply below_drew1) | exact HB.out)) hb); have n1_ := Aside0.mk (hbox); have n2_ := Aside0.mk ((by rw [hg]; exact (below_size (by repeat (first | (with_reducible first | exact HB.out | apply below_alloc | apply pw_below_drewN | apply below_drew1) | exact HB.out))) : w.heap.size ≤ gb202)); have n3_ := Aside0.mk ((by rw [hg]; exact (below_size (by repeat (first | (with_reducible first | exact HB.out | apply below_alloc | apply pw_below_drewN | apply below_drew1) | exact HB.out))) : w.heap.size ≤ gb202)); clear HB; have HB := n0_; have BK202 := n1_; have GW202 := n2_; have GE202 := n3_; clear n0_ n1_ n2_ n3_; clear hb hbox hg; have hcz14_0 : w13.cell? ⟨gb202, 0, none⟩ = some (.bool a0_0) := (blk_cell BK202.out 0).trans rfl; have hcz14_1 : w13.cell? ⟨gb202, 1, none⟩ = some (.slice A0_1 l0_1.length c0_1) := (blk_cell BK202.out 1).trans rfl; have hfz14_0 := blk_frozen BK202.out 0; have hfz14_1 := blk_frozen BK202.out 1) | (go_at_call 57; (with_reducible refine (white_can.calls k a0_0 _ _ l0_1 true _ ?side1 ?side2 A5.out).mono ?_); (case side1 => repeat (first | exact (Kd.C_below HR0_1.out HB.out) | (with_reducible refine Kd.C_alloc ?_ _) | (with_reducible refine Kd.C_drewN ?_ _) | (with_reducible refine Kd.C_drew ?_))); (case side2 => exact HC0_1.out); rintro e w15 ⟨rfl, hb⟩; have n0_ := Aside0.mk (blk_below (g := gb202) (o := .cells #[.bool a0_0, .slice A0_1 l0_1.length c0_1] 26 (0, 0)) (by (with_reducible repeat (first | refine blk_drewN ?_ _ | refine blk_drew ?_ | refine blk_alloc ?_ _)); exact BK202.out) hb); have n1_ := Aside0.mk (below_step (by repeat (first | (with_reducible first | exact HB.out | apply below_alloc | apply pw_below_drewN | apply below_drew1 | refine below_set ?_ GE202.out) | exact HB.out)) hb); clear BK202; clear HB; have BK202 := n0_; have HB := n1_; clear n0_ n1_; (try clear hb); (try clear hb2); (try clear hk); (try clear hi); have hcz16_0 : w15.cell? ⟨gb202, 0, none⟩ = some (.bool a0_0) := (blk_cell BK202.out 0).trans rfl; have hcz16_1 : w15.cell? ⟨gb202, 1, none⟩ = some (.slice A0_1 l0_1.length c0_1) := (blk_cell BK202.out 1).trans rfl; have hfz16_0 := blk_frozen BK202.out 0; have hfz16_1 := blk_frozen BK202.out 1) | ((with_reducible refine gate_callee (f := 72) rfl ?_); refine goesL_ (some 18) rfl rfl Try.func72 (by kernel_rfl) rfl #[.slice A0_1 l0_1.length c0_1, .int .i64 a1] rfl (by (try simp only [List.map_toArray, List.map_cons, List.map_nil]); first | done | rfl | (simp only [List.length_drop, List.length_take]; rfl)) ?_; (with_reducible refine (slices_BinarySearch_int_int.calls k _ _ l0_1 a1 t204 false _ ?side1 ?side2 A7.out).mono ?_); (case side1 => repeat (first | exact (Kd.C_below HR0_1.out HB.out) | (with_reducible refine Kd.C_alloc ?_ _) | (with_reducible refine Kd.C_drewN ?_ _) | (with_reducible refine Kd.C_drew ?_))); (case side2 => exact HC0_1.out); rintro e w' ⟨rfl, ⟨nd, rfl⟩⟩; refine ⟨_, rfl, ?_⟩))
        go_ret
        exact ⟨by first | rfl | (simp [errW_none, errW_some] <;> rfl) | (simp [*, errW_none, errW_some] <;> rfl), by repeat (first | (with_reducible first | exact HB.out | apply below_alloc | apply pw_below_drewN | apply below_drew1 | refine below_set ?_ GE202.out) | exact HB.out)⟩
    · replace c6 := Bool.eq_false_iff.mpr c6
      subst c6
      have H1 : (some false) = some r := by rw [if_neg (show ¬ (false = true) by decide)] at H; exact H
      clear H
      have H := H1
      clear H1
      obtain rfl := Option.some.inj H
      go_enter Try.func66, Try.ntmps66
      go_wp2_with (first | ((with_reducible refine gate_dst (N := 2) rfl ?_); refine box_event ?hg (N := 2) ?hd (cs := #[.bool a0_0, .slice A0_1 l0_1.length c0_1]) (t := 26) ?hr ?_; (case hd => rfl); (case hg => rfl); (case hr => first | (go_simp; done) | (go_simp; rfl)); intro gb202 hg w17 hbox hb; have n0_ := Aside0.mk (below_step (by repeat (first | (with_reducible first | exact HB.out | apply below_alloc | apply pw_below_drewN | apply below_drew1) | exact HB.out)) hb); have n1_ := Aside0.mk (hbox); have n2_ := Aside0.mk ((by rw [hg]; exact (below_size (by repeat (first | (with_reducible first | exact HB.out | apply below_alloc | apply pw_below_drewN | apply below_drew1) | exact HB.out))) : w.heap.size ≤ gb202)); have n3_ := Aside0.mk ((by rw [hg]; exact (below_size (by repeat (first | (with_reducible first | exact HB.out | apply below_alloc | apply pw_below_drewN | apply below_drew1) | exact HB.out))) : w.heap.size ≤ gb202)); clear HB; have HB := n0_; have BK202 := n1_; have GW202 := n2_; have GE202 := n3_; clear n0_ n1_ n2_ n3_; clear hb hbox hg; have hcz18_0 : w17.cell? ⟨gb202, 0, none⟩ = some (.bool a0_0) := (blk_cell BK202.out 0).trans rfl; have hcz18_1 : w17.cell? ⟨gb202, 1, none⟩ = some (.slice A0_1 l0_1.length c0_1) := (blk_cell BK202.out 1).trans rfl; have hfz18_0 := blk_frozen BK202.out 0; have hfz18_1 := blk_frozen BK202.out 1) | (go_at_call 57; (with_reducible refine (white_can.calls k a0_0 _ _ l0_1 false _ ?side1 ?side2 A5.out).mono ?_); (case side1 => repeat (first | exact (Kd.C_below HR0_1.out HB.out) | (with_reducible refine Kd.C_alloc ?_ _) | (with_reducible refine Kd.C_drewN ?_ _) | (with_reducible refine Kd.C_drew ?_))); (case side2 => exact HC0_1.out); rintro e w19 ⟨rfl, hb⟩; have n0_ := Aside0.mk (blk_below (g := gb202) (o := .cells #[.bool a0_0, .slice A0_1 l0_1.length c0_1] 26 (0, 0)) (by (with_reducible repeat (first | refine blk_drewN ?_ _ | refine blk_drew ?_ | refine blk_alloc ?_ _)); exact BK202.out) hb); have n1_ := Aside0.mk (below_step (by repeat (first | (with_reducible first | exact HB.out | apply below_alloc | apply pw_below_drewN | apply below_drew1 | refine below_set ?_ GE202.out) | exact HB.out)) hb); clear BK202; clear HB; have BK202 := n0_; have HB := n1_; clear n0_ n1_; (try clear hb); (try clear hb2); (try clear hk); (try clear hi)))
      go_ret
      exact ⟨by first | rfl | (simp [errW_none, errW_some] <;> rfl) | (simp [*, errW_none, errW_some] <;> rfl), by repeat (first | (with_reducible first | exact HB.out | apply below_alloc | apply pw_below_drewN | apply below_drew1 | refine below_set ?_ GE202.out) | exact HB.out)⟩
end Go.Proofs.Ytilfalpfanaanaa.PA

namespace Go.Proofs.Ytilfalpfanaanaa.PA
open Go.RowKit Go.Proofs.YtilfalpfanaanaaW.PrintWords Go.Proofs.YtilfalpfanaanaaW.PrintLast Go.Proofs.YtilfalpfanaanaaW.PrintMore
attribute [local go_sem] max2_int min2_int max_two min_two max_three min_three max_four min_four   -- for this text's walks alone
def purlieuref02_Can.l0 : Nat → Int → Bool → List Int → Option (Bool)
  | 0, _, _, _ => none
  | k + 1, x3, x108000, x108001 => if x3 < (x108001.length : Int) then (if x108000 = true then (some false) else (if 0 ≤ x3 then (if (rd x108001 x3) < 0 then (some false) else (if x3 > 0 then (if 0 ≤ (wrap64 (x3 - 1)) then (if (wrap64 (x3 - 1)) < (x108001.length : Int) then (if (rd x108001 x3) ≤ (rd x108001 (wrap64 (x3 - 1))) then (some false) else (if x3 ≥ 32 then (some false) else (purlieuref02_Can.l0 k (wrap64 (x3 + 1)) x108000 x108001))) else (none)) else (none)) else (if x3 ≥ 32 then (some false) else (purlieuref02_Can.l0 k (wrap64 (x3 + 1)) x108000 x108001)))) else (none))) else (some true)
def purlieuref02_Can.f (k : Nat) (a0_0 : Bool) (l0_1 : List Int) : Option (Bool) := purlieuref02_Can.l0 k 0 a0_0 l0_1
set_option maxHeartbeats 8000000 in
set_option maxRecDepth 100000 in
theorem purlieuref02_Can.calls (k : Nat) (a0_0 : Bool) (A0_1 : Option Addr) (c0_1 : Nat) (l0_1 : List Int) (r : Bool) (w : World) (hr0_1 : Kd.C (Kd.int .i64) w A0_1 l0_1.length l0_1) (hc0_1 : l0_1.length ≤ c0_1) (h : purlieuref02_Can.f k a0_0 l0_1 = some r) :
    Calls Try.prog 32 #[.agg #[.bool a0_0, .slice A0_1 l0_1.length c0_1]] w fun e w' => e = .returned (.bool r) ∧ Below w.heap.size w w' := by
  have hu26 := Try.underlying26
  have HR0_1 := Aside0.mk hr0_1
  have HC0_1 := Aside0.mk hc0_1
  clear hr0_1 hc0_1
  have HB := Aside0.mk (Below.refl w.heap.size w)
  have H : (purlieuref02_Can.l0 k 0 a0_0 l0_1) = some r := h
  clear h
  have H' := Aside0.mk H
  clear H
  go_enter Try.func32, Try.ntmps32
  go_wp2_with (first | ((with_reducible refine gate_dst (N := 1) rfl ?_); refine box_event ?hg (N := 1) ?hd (cs := #[.bool a0_0, .slice A0_1 l0_1.length c0_1]) (t := 26) ?hr ?_; (case hd => rfl); (case hg => rfl); (case hr => first | (go_simp; done) | (go_simp; rfl)); intro gb107 hg w2 hbox hb; have n0_ := Aside0.mk (below_step (by repeat (first | (with_reducible first | exact HB.out | apply below_alloc | apply pw_below_drewN | apply below_drew1) | exact HB.out)) hb); have n1_ := Aside0.mk (hbox); have n2_ := Aside0.mk ((by rw [hg]; exact (below_size (by repeat (first | (with_reducible first | exact HB.out | apply below_alloc | apply pw_below_drewN | apply below_drew1) | exact HB.out))) : w.heap.size ≤ gb107)); have n3_ := Aside0.mk ((by rw [hg]; exact (below_size (by repeat (first | (with_reducible first | exact HB.out | apply below_alloc | apply pw_below_drewN | apply below_drew1) | exact HB.out))) : w.heap.size ≤ gb107)); clear HB; have HB := n0_; have BK107 := n1_; have GW107 := n2_; have GE107 := n3_; clear n0_ n1_ n2_ n3_; clear hb hbox hg))
  repeat (go_quiet (first | ((with_reducible refine gate_dst (N := 1) rfl ?_); refine box_event ?hg (N := 1) ?hd (cs := #[.bool a0_0, .slice A0_1 l0_1.length c0_1]) (t := 26) ?hr ?_; (case hd => rfl); (case hg => rfl); (case hr => first | (go_simp; done) | (go_simp; rfl)); intro gb107 hg w2 hbox hb; have n0_ := Aside0.mk (below_step (by repeat (first | (with_reducible first | exact HB.out | apply below_alloc | apply pw_below_drewN | apply below_drew1) | exact HB.out)) hb); have n1_ := Aside0.mk (hbox); have n2_ := Aside0.mk ((by rw [hg]; exact (below_size (by repeat (first | (with_reducible first | exact HB.out | apply below_alloc | apply pw_below_drewN | apply below_drew1) | exact HB.out))) : w.heap.size ≤ gb107)); have n3_ := Aside0.mk ((by rw [hg]; exact (below_size (by repeat (first | (with_reducible first | exact HB.out | apply below_alloc | apply pw_below_drewN | apply below_drew1) | exact HB.out))) : w.heap.size ≤ gb107)); clear HB; have HB := n0_; have BK107 := n1_; have GW107 := n2_; have GE107 := n3_; clear n0_ n1_ n2_ n3_; clear hb hbox hg)); try go_wp2_with (first | ((with_reducible refine gate_dst (N := 1) rfl ?_); refine box_event ?hg (N := 1) ?hd (cs := #[.bool a0_0, .slice A0_1 l0_1.length c0_1]) (t := 26) ?hr ?_; (case hd => rfl); (case hg => rfl); (case hr => first | (go_simp; done) | (go_simp; rfl)); intro gb107 hg w2 hbox hb; have n0_ := Aside0.mk (below_step (by repeat (first | (with_reducible first | exact HB.out | apply below_alloc | apply pw_below_drewN | apply below_drew1) | exact HB.out)) hb); have n1_ := Aside0.mk (hbox); have n2_ := Aside0.mk ((by rw [hg]; exact (below_size (by repeat (first | (with_reducible first | exact HB.out | apply below_alloc | apply pw_below_drewN | apply below_drew1) | exact HB.out))) : w.heap.size ≤ gb107)); have n3_ := Aside0.mk ((by rw [hg]; exact (below_size (by repeat (first | (with_reducible first | exact HB.out | apply below_alloc | apply pw_below_drewN | apply below_drew1) | exact HB.out))) : w.heap.size ≤ gb107)); clear HB; have HB := n0_; have BK107 := n1_; have GW107 := n2_; have GE107 := n3_; clear n0_ n1_ n2_ n3_; clear hb hbox hg)))
  go_loopg [3] k (fun kq v3 w' => ∃ (x3_1 : Int), v3 = .int .i64 x3_1 ∧ Aside0 (purlieuref02_Can.l0 kq x3_1 a0_0 l0_1 = some r) ∧ Aside0 (kq ≤ k) ∧ Aside0 (w'.heap[gb107]? = some (.cells #[.bool a0_0, (.slice A0_1 l0_1.length c0_1)] 26 (0, 0))) ∧ Aside0 (Below w.heap.size w w'))
  case atStart => exact ⟨(0), (by first | rfl | (simp; done) | (simp [*]; done)), H', ⟨Nat.le_refl _⟩, ⟨by (with_reducible repeat (first | refine blk_drewN ?_ _ | refine blk_drew ?_ | refine blk_alloc ?_ _)); exact BK107.out⟩, ⟨by repeat (first | (with_reducible first | exact HB.out | apply below_alloc | apply pw_below_drewN | apply below_drew1 | refine below_set ?_ GE107.out) | exact HB.out)⟩⟩
  case round =>
    clear H'
    try clear p2
    obtain ⟨x3_1, rfl, HA, HK1, BK107, HB⟩ := hrel
    cases gk with
    | zero => exact absurd HA.out (by simp [purlieuref02_Can.l0])
    | succ k1 =>
      have H := HA.out
      clear HA
      simp only [purlieuref02_Can.l0] at H
      by_cases c3 : x3_1 < (l0_1.length : Int)
      · rw [if_pos c3] at H
        have c3b0 : decide (x3_1 < (l0_1.length : Int)) = true := decide_eq_true c3
        clear c3
        by_cases c4 : a0_0 = true
        · subst c4
          have H1 : (some false) = some r := by rw [if_pos rfl] at H; exact H
          clear H
          have H := H1
          clear H1
          obtain rfl := Option.some.inj H
          have hcz5_0 : wr.cell? ⟨gb107, 0, none⟩ = some (.bool true) := (blk_cell BK107.out 0).trans rfl
          have hcz5_1 : wr.cell? ⟨gb107, 1, none⟩ = some (.slice A0_1 l0_1.length c0_1) := (blk_cell BK107.out 1).trans rfl
          have hfz5_0 := blk_frozen BK107.out 0
          have hfz5_1 := blk_frozen BK107.out 1
          go_wp2
          repeat (go_quiet (fail); try go_wp2)
          go_ret
          exact ⟨by first | rfl | (simp [errW_none, errW_some] <;> rfl) | (simp [*, errW_none, errW_some] <;> rfl), by repeat (first | (with_reducible first | exact HB.out | apply below_alloc | apply pw_below_drewN | apply below_drew1 | refine below_set ?_ GE107.out) | exact HB.out)⟩
        · replace c4 := Bool.eq_false_iff.mpr c4
          subst c4
          have H1 : (if 0 ≤ x3_1 then (if (rd l0_1 x3_1) < 0 then (some false) else (if x3_1 > 0 then (if 0 ≤ (wrap64 (x3_1 - 1)) then (if (wrap64 (x3_1 - 1)) < (l0_1.length : Int) then (if (rd l0_1 x3_1) ≤ (rd l0_1 (wrap64 (x3_1 - 1))) then (some false) else (if x3_1 ≥ 32 then (some false) else (purlieuref02_Can.l0 k1 (wrap64 (x3_1 + 1)) false l0_1))) else (none)) else (none)) else (if x3_1 ≥ 32 then (some false) else (purlieuref02_Can.l0 k1 (wrap64 (x3_1 + 1)) false l0_1)))) else (none)) = some r := by rw [if_neg (show ¬ (false = true) by decide)] at H; exact H
          clear H
          have H := H1
          clear H1
          by_cases c6 : 0 ≤ x3_1
          · rw [if_pos c6] at H
            have c6b0 : decide (0 ≤ x3_1) = true := decide_eq_true c6
            clear c6
            by_cases c7 : (rd l0_1 x3_1) < 0
            · rw [if_pos c7] at H
              have c7b0 : decide ((rd l0_1 x3_1) < 0) = true := decide_eq_true c7
              clear c7
              obtain rfl := Option.some.inj H
              have hcz8_0 : wr.cell? ⟨gb107, 0, none⟩ = some (.bool false) := (blk_cell BK107.out 0).trans rfl
              have hcz8_1 : wr.cell? ⟨gb107, 1, none⟩ = some (.slice A0_1 l0_1.length c0_1) := (blk_cell BK107.out 1).trans rfl
              have hfz8_0 := blk_frozen BK107.out 0
              have hfz8_1 := blk_frozen BK107.out 1
              have p108 : 0 ≤ (x3_1 : Int) := of_decide_eq_true (by first | (with_reducible assumption) | assumption)
              have q108 : x3_1 < (l0_1.length : Int) := of_decide_eq_true (by first | (with_reducible assumption) | assumption)
              obtain ⟨ad108, e108, hx108_0⟩ := Kd.at_int HR0_1.out x3_1 p108 q108
              cases e108
              replace hx108_0 := (HB.out.cell (World.block_lt_of_cell? w _ hx108_0)).trans hx108_0
              replace p108 := eq_true p108
              replace q108 := eq_true q108
              go_wp2
              repeat (go_quiet (fail); try go_wp2)
              go_ret
              exact ⟨by first | rfl | (simp [errW_none, errW_some] <;> rfl) | (simp [*, errW_none, errW_some] <;> rfl), by repeat (first | (with_reducible first | exact HB.out | apply below_alloc | apply pw_below_drewN | apply below_drew1 | refine below_set ?_ GE107.out) | exact HB.out)⟩
            · rw [if_neg c7] at H
              have c7b0 : decide ((rd l0_1 x3_1) < 0) = false := decide_eq_false c7
              clear c7
              by_cases c9 : x3_1 > 0
              · rw [if_pos c9] at H
                have c9b0 : decide (0 < x3_1) = true := decide_eq_true c9
                clear c9
                obtain ⟨ji10, hji10⟩ : ∃ j_ : Int, (wrap64 (x3_1 - 1)) = j_ := ⟨_, rfl⟩
                replace H : (if 0 ≤ (ji10) then (if (ji10) < (l0_1.length : Int) then (if (rd l0_1 x3_1) ≤ (rd l0_1 (ji10)) then (some false) else (if x3_1 ≥ 32 then (some false) else (purlieuref02_Can.l0 k1 (wrap64 (x3_1 + 1)) false l0_1))) else (none)) else (none)) = some r := by first | (rw [hji10] at H; exact H) | (simp only [hji10] at H ⊢; exact H)
                have hji10w : (IntKind.i64.wrap (x3_1 - 1)) = ji10 := (i64_w _).trans hji10
                by_cases c11 : 0 ≤ (ji10)
                · rw [if_pos c11] at H
                  have c11b0 : decide (0 ≤ (ji10)) = true := decide_eq_true c11
                  clear c11
                  by_cases c12 : (ji10) < (l0_1.length : Int)
                  · rw [if_pos c12] at H
                    have c12b0 : decide ((ji10) < (l0_1.length : Int)) = true := decide_eq_true c12
                    clear c12
                    by_cases c13 : (rd l0_1 x3_1) ≤ (rd l0_1 (ji10))
                    · rw [if_pos c13] at H
                      have c13b0 : decide ((rd l0_1 x3_1) ≤ (rd l0_1 (ji10))) = true := decide_eq_true c13
                      clear c13
                      obtain rfl := Option.some.inj H
                      have hcz14_0 : wr.cell? ⟨gb107, 0, none⟩ = some (.bool false) := (blk_cell BK107.out 0).trans rfl
                      have hcz14_1 : wr.cell? ⟨gb107, 1, none⟩ = some (.slice A0_1 l0_1.length c0_1) := (blk_cell BK107.out 1).trans rfl
                      have hfz14_0 := blk_frozen BK107.out 0
                      have hfz14_1 := blk_frozen BK107.out 1
                      have p108 : 0 ≤ (x3_1 : Int) := of_decide_eq_true (by first | (with_reducible assumption) | assumption)
                      have q108 : x3_1 < (l0_1.length : Int) := of_decide_eq_true (by first | (with_reducible assumption) | assumption)
                      obtain ⟨ad108, e108, hx108_0⟩ := Kd.at_int HR0_1.out x3_1 p108 q108
                      cases e108
                      replace hx108_0 := (HB.out.cell (World.block_lt_of_cell? w _ hx108_0)).trans hx108_0
                      replace p108 := eq_true p108
                      replace q108 := eq_true q108
                      have p109 : 0 ≤ (x3_1 : Int) := of_decide_eq_true (by first | (with_reducible assumption) | assumption)
                      have q109 : x3_1 < (l0_1.length : Int) := of_decide_eq_true (by first | (with_reducible assumption) | assumption)
                      obtain ⟨ad109, e109, hx109_0⟩ := Kd.at_int HR0_1.out x3_1 p109 q109
                      obtain rfl : ad108 = ad109 := (by injection e109)
                      replace hx109_0 := (HB.out.cell (World.block_lt_of_cell? w _ hx109_0)).trans hx109_0
                      replace p109 := eq_true p109
                      replace q109 := eq_true q109
                      have p110 : 0 ≤ ((ji10) : Int) := of_decide_eq_true (by first | (with_reducible assumption) | assumption)
                      have q110 : (ji10) < (l0_1.length : Int) := of_decide_eq_true (by first | (with_reducible assumption) | assumption)
                      obtain ⟨ad110, e110, hx110_0⟩ := Kd.at_int HR0_1.out (ji10) p110 q110
                      obtain rfl : ad108 = ad110 := (by injection e110)
                      replace hx110_0 := (HB.out.cell (World.block_lt_of_cell? w _ hx110_0)).trans hx110_0
                      replace p110 := eq_true p110
                      replace q110 := eq_true q110
                      go_wp2
                      repeat (go_quiet (fail); try go_wp2)
                      go_ret
                      exact ⟨by first | rfl | (simp [errW_none, errW_some] <;> rfl) | (simp only [← hji10]; first | rfl | (simp [errW_none, errW_some] <;> rfl)) | (simp [*, errW_none, errW_some] <;> rfl), by repeat (first | (with_reducible first | exact HB.out | apply below_alloc | apply pw_below_drewN | apply below_drew1 | refine below_set ?_ GE107.out) | exact HB.out)⟩
                    · rw [if_neg c13] at H
                      have c13b0 : decide ((rd l0_1 x3_1) ≤ (rd l0_1 (ji10))) = false := decide_eq_false c13
                      clear c13
                      by_cases c15 : x3_1 ≥ 32
                      · rw [if_pos c15] at H
                        have c15b0 : decide (32 ≤ x3_1) = true := decide_eq_true c15
                        clear c15
                        obtain rfl := Option.some.inj H
                        have hcz16_0 : wr.cell? ⟨gb107, 0, none⟩ = some (.bool false) := (blk_cell BK107.out 0).trans rfl
                        have hcz16_1 : wr.cell? ⟨gb107, 1, none⟩ = some (.slice A0_1 l0_1.length c0_1) := (blk_cell BK107.out 1).trans rfl
                        have hfz16_0 := blk_frozen BK107.out 0
                        have hfz16_1 := blk_frozen BK107.out 1
                        have p108 : 0 ≤ (x3_1 : Int) := of_decide_eq_true (by first | (with_reducible assumption) | assumption)
                        have q108 : x3_1 < (l0_1.length : Int) := of_decide_eq_true (by first | (with_reducible assumption) | assumption)
                        obtain ⟨ad108, e108, hx108_0⟩ := Kd.at_int HR0_1.out x3_1 p108 q108
                        cases e108
                        replace hx108_0 := (HB.out.cell (World.block_lt_of_cell? w _ hx108_0)).trans hx108_0
                        replace p108 := eq_true p108
                        replace q108 := eq_true q108
                        have p109 : 0 ≤ (x3_1 : Int) := of_decide_eq_true (by first | (with_reducible assumption) | assumption)
                        have q109 : x3_1 < (l0_1.length : Int) := of_decide_eq_true (by first | (with_reducible assumption) | assumption)
                        obtain ⟨ad109, e109, hx109_0⟩ := Kd.at_int HR0_1.out x3_1 p109 q109
                        obtain rfl : ad108 = ad109 := (by injection e109)
                        replace hx109_0 := (HB.out.cell (World.block_lt_of_cell? w _ hx109_0)).trans hx109_0
                        replace p109 := eq_true p109
                        replace q109 := eq_true q109
                        have p110 : 0 ≤ ((ji10) : Int) := of_decide_eq_true (by first | (with_reducible assumption) | assumption)
                        have q110 : (ji10) < (l0_1.length : Int) := of_decide_eq_true (by first | (with_reducible assumption) | assumption)
                        obtain ⟨ad110, e110, hx110_0⟩ := Kd.at_int HR0_1.out (ji10) p110 q110
                        obtain rfl : ad108 = ad110 := (by injection e110)
                        replace hx110_0 := (HB.out.cell (World.block_lt_of_cell? w _ hx110_0)).trans hx110_0
                        replace p110 := eq_true p110
                        replace q110 := eq_true q110
                        go_wp2
                        repeat (go_quiet (fail); try go_wp2)
                        go_ret
                        exact ⟨by first | rfl | (simp [errW_none, errW_some] <;> rfl) | (simp only [← hji10]; first | rfl | (simp [errW_none, errW_some] <;> rfl)) | (simp [*, errW_none, errW_some] <;> rfl), by repeat (first | (with_reducible first | exact HB.out | apply below_alloc | apply pw_below_drewN | apply below_drew1 | refine below_set ?_ GE107.out) | exact HB.out)⟩
                      · rw [if_neg c15] at H
                        have c15b0 : decide (32 ≤ x3_1) = false := decide_eq_false c15
                        clear c15
                        have H' := Aside0.mk H
                        clear H
                        have hcz17_0 : wr.cell? ⟨gb107, 0, none⟩ = some (.bool false) := (blk_cell BK107.out 0).trans rfl
                        have hcz17_1 : wr.cell? ⟨gb107, 1, none⟩ = some (.slice A0_1 l0_1.length c0_1) := (blk_cell BK107.out 1).trans rfl
                        have hfz17_0 := blk_frozen BK107.out 0
                        have hfz17_1 := blk_frozen BK107.out 1
                        have p108 : 0 ≤ (x3_1 : Int) := of_decide_eq_true (by first | (with_reducible assumption) | assumption)
                        have q108 : x3_1 < (l0_1.length : Int) := of_decide_eq_true (by first | (with_reducible assumption) | assumption)
                        obtain ⟨ad108, e108, hx108_0⟩ := Kd.at_int HR0_1.out x3_1 p108 q108
                        cases e108
                        replace hx108_0 := (HB.out.cell (World.block_lt_of_cell? w _ hx108_0)).trans hx108_0
                        replace p108 := eq_true p108
                        replace q108 := eq_true q108
                        have p109 : 0 ≤ (x3_1 : Int) := of_decide_eq_true (by first | (with_reducible assumption) | assumption)
                        have q109 : x3_1 < (l0_1.length : Int) := of_decide_eq_true (by first | (with_reducible assumption) | assumption)
                        obtain ⟨ad109, e109, hx109_0⟩ := Kd.at_int HR0_1.out x3_1 p109 q109
                        obtain rfl : ad108 = ad109 := (by injection e109)
                        replace hx109_0 := (HB.out.cell (World.block_lt_of_cell? w _ hx109_0)).trans hx109_0
                        replace p109 := eq_true p109
                        replace q109 := eq_true q109
                        have p110 : 0 ≤ ((ji10) : Int) := of_decide_eq_true (by first | (with_reducible assumption) | assumption)
                        have q110 : (ji10) < (l0_1.length : Int) := of_decide_eq_true (by first | (with_reducible assumption) | assumption)
                        obtain ⟨ad110, e110, hx110_0⟩ := Kd.at_int HR0_1.out (ji10) p110 q110
                        obtain rfl : ad108 = ad110 := (by injection e110)
                        replace hx110_0 := (HB.out.cell (World.block_lt_of_cell? w _ hx110_0)).trans hx110_0
                        replace p110 := eq_true p110
                        replace q110 := eq_true q110
                        go_wp2
                        repeat (go_quiet (fail); try go_wp2)
                        go_roundg k1
                        case measure => have := HK1.out; omega
                        case rel => exact ⟨(wrap64 (x3_1 + 1)), (by first | rfl | (simp; done) | (simp [*]; done)), H', ⟨by have := HK1.out; omega⟩, ⟨by (with_reducible repeat (first | refine blk_drewN ?_ _ | refine blk_drew ?_ | refine blk_alloc ?_ _)); exact BK107.out⟩, ⟨by repeat (first | (with_reducible first | exact HB.out | apply below_alloc | apply pw_below_drewN | apply below_drew1 | refine below_set ?_ GE107.out) | exact HB.out)⟩⟩
                  · rw [if_neg c12] at H
                    exact absurd H (by simp)
                · rw [if_neg c11] at H
                  exact absurd H (by simp)
              · rw [if_neg c9] at H
                have c9b0 : decide (0 < x3_1) = false := decide_eq_false c9
                clear c9
                by_cases c18 : x3_1 ≥ 32
                · rw [if_pos c18] at H
                  have c18b0 : decide (32 ≤ x3_1) = true := decide_eq_true c18
                  clear c18
                  obtain rfl := Option.some.inj H
                  have hcz19_0 : wr.cell? ⟨gb107, 0, none⟩ = some (.bool false) := (blk_cell BK107.out 0).trans rfl
                  have hcz19_1 : wr.cell? ⟨gb107, 1, none⟩ = some (.slice A0_1 l0_1.length c0_1) := (blk_cell BK107.out 1).trans rfl
                  have hfz19_0 := blk_frozen BK107.out 0
                  have hfz19_1 := blk_frozen BK107.out 1
                  have p108 : 0 ≤ (x3_1 : Int) := of_decide_eq_true (by first | (with_reducible assumption) | assumption)
                  have q108 : x3_1 < (l0_1.length : Int) := of_decide_eq_true (by first | (with_reducible assumption) | assumption)
                  obtain ⟨ad108, e108, hx108_0⟩ := Kd.at_int HR0_1.out x3_1 p108 q108
                  cases e108
                  replace hx108_0 := (HB.out.cell (World.block_lt_of_cell? w _ hx108_0)).trans hx108_0
                  replace p108 := eq_true p108
                  replace q108 := eq_true q108
                  go_wp2
                  repeat (go_quiet (fail); try go_wp2)
                  go_ret
                  exact ⟨by first | rfl | (simp [errW_none, errW_some] <;> rfl) | (simp [*, errW_none, errW_some] <;> rfl), by repeat (first | (with_reducible first | exact HB.out | apply below_alloc | apply pw_below_drewN | apply below_drew1 | refine below_set ?_ GE107.out) | exact HB.out)⟩
                · rw [if_neg c18] at H
                  have c18b0 : decide (32 ≤ x3_1) = false := decide_eq_false c18
                  clear c18
                  have H' := Aside0.mk H
                  clear H
                  have hcz20_0 : wr.cell? ⟨gb107, 0, none⟩ = some (.bool false) := (blk_cell BK107.out 0).trans rfl
                  have hcz20_1 : wr.cell? ⟨gb107, 1, none⟩ = some (.slice A0_1 l0_1.length c0_1) := (blk_cell BK107.out 1).trans rfl
                  have hfz20_0 := blk_frozen BK107.out 0
                  have hfz20_1 := blk_frozen BK107.out 1
                  have p108 : 0 ≤ (x3_1 : Int) := of_decide_eq_true (by first | (with_reducible assumption) | assumption)
                  have q108 : x3_1 < (l0_1.length : Int) := of_decide_eq_true (by first | (with_reducible assumption) | assumption)
                  obtain ⟨ad108, e108, hx108_0⟩ := Kd.at_int HR0_1.out x3_1 p108 q108
                  cases e108
                  replace hx108_0 := (HB.out.cell (World.block_lt_of_cell? w _ hx108_0)).trans hx108_0
                  replace p108 := eq_true p108
                  replace q108 := eq_true q108
                  go_wp2
                  repeat (go_quiet (fail); try go_wp2)
                  go_roundg k1
                  case measure => have := HK1.out; omega
                  case rel => exact ⟨(wrap64 (x3_1 + 1)), (by first | rfl | (simp; done) | (simp [*]; done)), H', ⟨by have := HK1.out; omega⟩, ⟨by (with_reducible repeat (first | refine blk_drewN ?_ _ | refine blk_drew ?_ | refine blk_alloc ?_ _)); exact BK107.out⟩, ⟨by repeat (first | (with_reducible first | exact HB.out | apply below_alloc | apply pw_below_drewN | apply below_drew1 | refine below_set ?_ GE107.out) | exact HB.out)⟩⟩
          · rw [if_neg c6] at H
            exact absurd H (by simp)
      · rw [if_neg c3] at H
        have c3b0 : decide (x3_1 < (l0_1.length : Int)) = false := decide_eq_false c3
        clear c3
        obtain rfl := Option.some.inj H
        have hcz21_0 : wr.cell? ⟨gb107, 0, none⟩ = some (.bool a0_0) := (blk_cell BK107.out 0).trans rfl
        have hcz21_1 : wr.cell? ⟨gb107, 1, none⟩ = some (.slice A0_1 l0_1.length c0_1) := (blk_cell BK107.out 1).trans rfl
        have hfz21_0 := blk_frozen BK107.out 0
        have hfz21_1 := blk_frozen BK107.out 1
        go_wp2
        repeat (go_quiet (fail); try go_wp2)
        go_ret
        exact ⟨by first | rfl | (simp [errW_none, errW_some] <;> rfl) | (simp [*, errW_none, errW_some] <;> rfl), by repeat (first | (with_reducible first | exact HB.out | apply below_alloc | apply pw_below_drewN | apply below_drew1 | refine below_set ?_ GE107.out) | exact HB.out)⟩
end Go.Proofs.Ytilfalpfanaanaa.PA

namespace Go.Proofs.Ytilfalpfanaanaa.PA
open Go.RowKit Go.Proofs.YtilfalpfanaanaaW.PrintWords Go.Proofs.YtilfalpfanaanaaW.PrintLast Go.Proofs.YtilfalpfanaanaaW.PrintMore
attribute [local go_sem] max2_int min2_int max_two min_two max_three min_three max_four min_four   -- for this text's walks alone
def purlieuref02_bit.f (a0 : Int) (a1 : Int) : Option (Bool) := if 0 ≤ (IntKind.u64.wrap (a1)) then (some ((Go.bits .and .i64 (shr .i64 a0 (IntKind.u64.wrap (a1))) 1) == 1)) else (none)
set_option maxHeartbeats 8000000 in
set_option maxRecDepth 100000 in
theorem purlieuref02_bit.calls (a0 : Int) (a1 : Int) (r : Bool) (w : World) (h : purlieuref02_bit.f a0 a1 = some r) :
    Calls Try.prog 52 #[.int .i64 a0, .int .i64 a1] w fun e w' => e = .returned (.bool r) ∧ Drawn0 w w' := by
  have H : (if 0 ≤ (IntKind.u64.wrap (a1)) then (some ((Go.bits .and .i64 (shr .i64 a0 (IntKind.u64.wrap (a1))) 1) == 1)) else (none)) = some r := h
  clear h
  obtain ⟨ji3, hji3⟩ : ∃ j_ : Int, (IntKind.u64.wrap (a1)) = j_ := ⟨_, rfl⟩
  replace H : (if 0 ≤ (ji3) then (some ((Go.bits .and .i64 (shr .i64 a0 (ji3)) 1) == 1)) else (none)) = some r := by first | (rw [hji3] at H; exact H) | (simp only [hji3] at H ⊢; exact H)
  by_cases c4 : 0 ≤ (ji3)
  · rw [if_pos c4] at H
    have c4b0 := eq_true c4
    have c4b1 : decide (0 ≤ (ji3)) = true := decide_eq_true c4
    clear c4
    obtain ⟨ji5, hji5⟩ : ∃ j_ : Int, (shr .i64 a0 (ji3)) = j_ := ⟨_, rfl⟩
    replace H : (some ((Go.bits .and .i64 (ji5) 1) == 1)) = some r := by first | (rw [hji5] at H; exact H) | (simp only [hji5] at H ⊢; exact H)
    have hji5_ : (a0 / 2 ^ min (ji3).toNat 64) = ji5 := hji5
    have hji5z : (ji3) ≤ 64 → (a0 / 2 ^ (ji3).toNat) = ji5 := shr_small hji5
    obtain rfl := Option.some.inj H
    go_enter Try.func52, Try.ntmps52
    go_wp2
    go_ret
    exact ⟨by first | rfl | (simp; done) | (simp only [← hji3, ← hji5] <;> (first | rfl | simp)) | (simp [*]; done), by repeat (first | exact Drawn0.refl _ | apply Drawn0.step)⟩
  · rw [if_neg c4] at H
    exact absurd H (by simp)
end Go.Proofs.Ytilfalpfanaanaa.PA

namespace Go.Proofs.Ytilfalpfanaanaa.PA
open Go.RowKit Go.Proofs.YtilfalpfanaanaaW.PrintWords Go.Proofs.YtilfalpfanaanaaW.PrintLast Go.Proofs.YtilfalpfanaanaaW.PrintMore
attribute [local go_sem] max2_int min2_int max_two min_two max_three min_three max_four min_four   -- for this text's walks alone
mutual
def purlieuref02_Mask.l0 : Nat → Int → Int → Int → Option (Int × Int)
  | 0, _, _, _ => none
  | k + 1, x0, x1, x6 => if x6 < 64 then (if x6 < 3 then ((purlieuref02_bit.f x0 x6).bind fun t101 => (if t101 = true then (some (0, 22)) else ((purlieuref02_bit.f x1 x6).bind fun t102 => (if t102 = true then (some (0, 22)) else (purlieuref02_Mask.l0 k x0 x1 (wrap64 (x6 + 1))))))) else (if x6 > 6 then ((purlieuref02_bit.f x0 x6).bind fun t103 => (if t103 = true then (some (0, 22)) else ((purlieuref02_bit.f x1 x6).bind fun t104 => (if t104 = true then (some (0, 22)) else (purlieuref02_Mask.l0 k x0 x1 (wrap64 (x6 + 1))))))) else (purlieuref02_Mask.l0 k x0 x1 (wrap64 (x6 + 1))))) else (purlieuref02_Mask.l1 k x0 x1 0)
def purlieuref02_Mask.l1 : Nat → Int → Int → Int → Option (Int × Int)
  | 0, _, _, _ => none
  | k + 1, x0, x1, x7 => if x7 < 64 then ((purlieuref02_bit.f x1 x7).bind fun t105 => (if t105 = true then ((purlieuref02_bit.f x0 x7).bind fun t106 => (if t106 = true then (purlieuref02_Mask.l1 k x0 x1 (wrap64 (x7 + 1))) else (some (0, 93)))) else (purlieuref02_Mask.l1 k x0 x1 (wrap64 (x7 + 1))))) else (some (x1, 0))
end
def purlieuref02_Mask.f (k : Nat) (a0 : Int) (a1 : Int) : Option (Int × Int) := purlieuref02_Mask.l0 k a0 a1 0
set_option maxHeartbeats 8000000 in
set_option maxRecDepth 100000 in
theorem purlieuref02_Mask.calls (k : Nat) (a0 : Int) (a1 : Int) (r1 : Int) (r2 : Int) (w : World) (h : purlieuref02_Mask.f k a0 a1 = some (r1, r2)) :
    Calls Try.prog 31 #[.int .i64 a0, .int .i64 a1] w fun e w' => e = .returned (.tuple #[.int .i64 r1, .int .i64 r2]) ∧ Drawn0 w w' := by
  have H : (purlieuref02_Mask.l0 k a0 a1 0) = some (r1, r2) := h
  clear h
  have H' := Aside0.mk H
  clear H
  go_enter Try.func31, Try.ntmps31
  go_wp2
  go_loopg [6] k (fun kq v6 w' => ∃ (x6_1 : Int), v6 = .int .i64 x6_1 ∧ Aside0 (purlieuref02_Mask.l0 kq a0 a1 x6_1 = some (r1, r2)) ∧ Aside0 (kq ≤ k) ∧ Drawn0 w w')
  case atStart => exact ⟨(0), (by first | rfl | (simp; done) | (simp [*]; done)), H', ⟨Nat.le_refl _⟩, by repeat (first | exact Drawn0.refl _ | apply Drawn0.step)⟩
  case round =>
    clear H'
    try clear p2
    obtain ⟨x6_1, rfl, HA, HK1, ⟨m1, rfl⟩⟩ := hrel
    cases gk with
    | zero => exact absurd HA.out (by simp [purlieuref02_Mask.l0])
    | succ k1 =>
      have H := HA.out
      clear HA
      simp only [purlieuref02_Mask.l0] at H
      by_cases c3 : x6_1 < 64
      · rw [if_pos c3] at H
        have c3b0 : decide (x6_1 < 64) = true := decide_eq_true c3
        clear c3
        by_cases c4 : x6_1 < 3
        · rw [if_pos c4] at H
          have c4b0 : decide (x6_1 < 3) = true := decide_eq_true c4
          clear c4
          replace H := Option.bind_eq_some_iff.mp H
          obtain ⟨t101, A50, H⟩ := H
          replace H : (if t101 = true then (some (0, 22)) else ((purlieuref02_bit.f a1 x6_1).bind fun t102 => (if t102 = true then (some (0, 22)) else (purlieuref02_Mask.l0 k1 a0 a1 (wrap64 (x6_1 + 1)))))) = some (r1, r2) := H
          have A5 := Aside0.mk A50
          clear A50
          by_cases c6 : t101 = true
          · subst c6
            have H1 : (some (0, 22)) = some (r1, r2) := by rw [if_pos rfl] at H; exact H
            clear H
            have H := H1
            clear H1
            simp only [Option.some.injEq, Prod.mk.injEq] at H
            obtain ⟨rfl, rfl⟩ := H
            go_wp2_with (first | (go_at_call 52; (with_reducible refine (purlieuref02_bit.calls a0 x6_1 true _ A5.out).mono ?_); rintro e w' ⟨rfl, ⟨nd, rfl⟩⟩))
            go_ret2
            exact ⟨by first | rfl | (simp; done) | (simp [*]; done), by repeat (first | exact Drawn0.refl _ | apply Drawn0.step)⟩
          · replace c6 := Bool.eq_false_iff.mpr c6
            subst c6
            have H1 : ((purlieuref02_bit.f a1 x6_1).bind fun t102 => (if t102 = true then (some (0, 22)) else (purlieuref02_Mask.l0 k1 a0 a1 (wrap64 (x6_1 + 1))))) = some (r1, r2) := by rw [if_neg (show ¬ (false = true) by decide)] at H; exact H
            clear H
            have H := H1
            clear H1
            replace H := Option.bind_eq_some_iff.mp H
            obtain ⟨t102, A70, H⟩ := H
            replace H : (if t102 = true then (some (0, 22)) else (purlieuref02_Mask.l0 k1 a0 a1 (wrap64 (x6_1 + 1)))) = some (r1, r2) := H
            have A7 := Aside0.mk A70
            clear A70
            by_cases c8 : t102 = true
            · subst c8
              have H1 : (some (0, 22)) = some (r1, r2) := by rw [if_pos rfl] at H; exact H
              clear H
              have H := H1
              clear H1
              simp only [Option.some.injEq, Prod.mk.injEq] at H
              obtain ⟨rfl, rfl⟩ := H
              go_wp2_with (first | (go_at_call 52; (with_reducible refine (purlieuref02_bit.calls a0 x6_1 false _ A5.out).mono ?_); rintro e w' ⟨rfl, ⟨nd, rfl⟩⟩) | (go_at_call 52; (with_reducible refine (purlieuref02_bit.calls a1 x6_1 true _ A7.out).mono ?_); rintro e w' ⟨rfl, ⟨nd, rfl⟩⟩))
              go_ret2
              exact ⟨by first | rfl | (simp; done) | (simp [*]; done), by repeat (first | exact Drawn0.refl _ | apply Drawn0.step)⟩
            · replace c8 := Bool.eq_false_iff.mpr c8
              subst c8
              have H1 : (purlieuref02_Mask.l0 k1 a0 a1 (wrap64 (x6_1 + 1))) = some (r1, r2) := by rw [if_neg (show ¬ (false = true) by decide)] at H; exact H
              clear H
              have H := H1
              clear H1
              have H' := Aside0.mk H
              clear H
              go_wp2_with (first | (go_at_call 52; (with_reducible refine (purlieuref02_bit.calls a0 x6_1 false _ A5.out).mono ?_); rintro e w' ⟨rfl, ⟨nd, rfl⟩⟩) | (go_at_call 52; (with_reducible refine (purlieuref02_bit.calls a1 x6_1 false _ A7.out).mono ?_); rintro e w' ⟨rfl, ⟨nd, rfl⟩⟩))
              go_roundg k1
              case measure => have := HK1.out; omega
              case rel => exact ⟨(wrap64 (x6_1 + 1)), (by first | rfl | (simp; done) | (simp [*]; done)), H', ⟨by have := HK1.out; omega⟩, by repeat (first | exact Drawn0.refl _ | apply Drawn0.step)⟩
        · rw [if_neg c4] at H
          have c4b0 : decide (x6_1 < 3) = false := decide_eq_false c4
          clear c4
          by_cases c9 : x6_1 > 6
          · rw [if_pos c9] at H
            have c9b0 : decide (6 < x6_1) = true := decide_eq_true c9
            clear c9
            replace H := Option.bind_eq_some_iff.mp H
            obtain ⟨t103, A100, H⟩ := H
            replace H : (if t103 = true then (some (0, 22)) else ((purlieuref02_bit.f a1 x6_1).bind fun t104 => (if t104 = true then (some (0, 22)) else (purlieuref02_Mask.l0 k1 a0 a1 (wrap64 (x6_1 + 1)))))) = some (r1, r2) := H
            have A10 := Aside0.mk A100
            clear A100
            by_cases c11 : t103 = true
            · subst c11
              have H1 : (some (0, 22)) = some (r1, r2) := by rw [if_pos rfl] at H; exact H
              clear H
              have H := H1
              clear H1
              simp only [Option.some.injEq, Prod.mk.injEq] at H
              obtain ⟨rfl, rfl⟩ := H
              go_wp2_with (first | (go_at_call 52; (with_reducible refine (purlieuref02_bit.calls a0 x6_1 true _ A10.out).mono ?_); rintro e w' ⟨rfl, ⟨nd, rfl⟩⟩))
              go_ret2
              exact ⟨by first | rfl | (simp; done) | (simp [*]; done), by repeat (first | exact Drawn0.refl _ | apply Drawn0.step)⟩
            · replace c11 := Bool.eq_false_iff.mpr c11
              subst c11
              have H1 : ((purlieuref02_bit.f a1 x6_1).bind fun t104 => (if t104 = true then (some (0, 22)) else (purlieuref02_Mask.l0 k1 a0 a1 (wrap64 (x6_1 + 1))))) = some (r1, r2) := by rw [if_neg (show ¬ (false = true) by decide)] at H; exact H
              clear H
              have H := H1
              clear H1
              replace H := Option.bind_eq_some_iff.mp H
              obtain ⟨t104, A120, H⟩ := H
              replace H : (if t104 = true then (some (0, 22)) else (purlieuref02_Mask.l0 k1 a0 a1 (wrap64 (x6_1 + 1)))) = some (r1, r2) := H
              have A12 := Aside0.mk A120
              clear A120
              by_cases c13 : t104 = true
              · subst c13
                have H1 : (some (0, 22)) = some (r1, r2) := by rw [if_pos rfl] at H; exact H
                clear H
                have H := H1
                clear H1
                simp only [Option.some.injEq, Prod.mk.injEq] at H
                obtain ⟨rfl, rfl⟩ := H
                go_wp2_with (first | (go_at_call 52; (with_reducible refine (purlieuref02_bit.calls a0 x6_1 false _ A10.out).mono ?_); rintro e w' ⟨rfl, ⟨nd, rfl⟩⟩) | (go_at_call 52; (with_reducible refine (purlieuref02_bit.calls a1 x6_1 true _ A12.out).mono ?_); rintro e w' ⟨rfl, ⟨nd, rfl⟩⟩))
                go_ret2
                exact ⟨by first | rfl | (simp; done) | (simp [*]; done), by repeat (first | exact Drawn0.refl _ | apply Drawn0.step)⟩
              · replace c13 := Bool.eq_false_iff.mpr c13
                subst c13
                have H1 : (purlieuref02_Mask.l0 k1 a0 a1 (wrap64 (x6_1 + 1))) = some (r1, r2) := by rw [if_neg (show ¬ (false = true) by decide)] at H; exact H
                clear H
                have H := H1
                clear H1
                have H' := Aside0.mk H
                clear H
                go_wp2_with (first | (go_at_call 52; (with_reducible refine (purlieuref02_bit.calls a0 x6_1 false _ A10.out).mono ?_); rintro e w' ⟨rfl, ⟨nd, rfl⟩⟩) | (go_at_call 52; (with_reducible refine (purlieuref02_bit.calls a1 x6_1 false _ A12.out).mono ?_); rintro e w' ⟨rfl, ⟨nd, rfl⟩⟩))
                go_roundg k1
                case measure => have := HK1.out; omega
                case rel => exact ⟨(wrap64 (x6_1 + 1)), (by first | rfl | (simp; done) | (simp [*]; done)), H', ⟨by have := HK1.out; omega⟩, by repeat (first | exact Drawn0.refl _ | apply Drawn0.step)⟩
          · rw [if_neg c9] at H
            have c9b0 : decide (6 < x6_1) = false := decide_eq_false c9
            clear c9
            have H' := Aside0.mk H
            clear H
            go_wp2
            go_roundg k1
            case measure => have := HK1.out; omega
            case rel => exact ⟨(wrap64 (x6_1 + 1)), (by first | rfl | (simp; done) | (simp [*]; done)), H', ⟨by have := HK1.out; omega⟩, by repeat (first | exact Drawn0.refl _ | apply Drawn0.step)⟩
      · rw [if_neg c3] at H
        have c3b0 : decide (x6_1 < 64) = false := decide_eq_false c3
        clear c3
        have H' := Aside0.mk H
        clear H
        go_wp2
        go_loopg [7] k1 (fun kq v7 w' => ∃ (x7_2 : Int), v7 = .int .i64 x7_2 ∧ Aside0 (purlieuref02_Mask.l1 kq a0 a1 x7_2 = some (r1, r2)) ∧ Aside0 (kq ≤ k1) ∧ Drawn0 w w')
        case atStart => exact ⟨(0), (by first | rfl | (simp; done) | (simp [*]; done)), H', ⟨Nat.le_refl _⟩, by repeat (first | exact Drawn0.refl _ | apply Drawn0.step)⟩
        case round =>
          clear H'
          try clear c1
          try clear p2
          try clear c3
          try clear c3b0
          try clear c4
          try clear c4b0
          try clear c6
          try clear p6
          try clear c8
          try clear c9
          try clear c9b0
          try clear c11
          try clear c13
          try clear p2
          obtain ⟨x7_2, rfl, HA, HK2, ⟨m2, rfl⟩⟩ := hrel
          cases gk with
          | zero => exact absurd HA.out (by simp [purlieuref02_Mask.l1])
          | succ k2 =>
            have H := HA.out
            clear HA
            simp only [purlieuref02_Mask.l1] at H
            by_cases c14 : x7_2 < 64
            · rw [if_pos c14] at H
              have c14b0 : decide (x7_2 < 64) = true := decide_eq_true c14
              clear c14
              replace H := Option.bind_eq_some_iff.mp H
              obtain ⟨t105, A150, H⟩ := H
              replace H : (if t105 = true then ((purlieuref02_bit.f a0 x7_2).bind fun t106 => (if t106 = true then (purlieuref02_Mask.l1 k2 a0 a1 (wrap64 (x7_2 + 1))) else (some (0, 93)))) else (purlieuref02_Mask.l1 k2 a0 a1 (wrap64 (x7_2 + 1)))) = some (r1, r2) := H
              have A15 := Aside0.mk A150
              clear A150
              by_cases c16 : t105 = true
              · subst c16
                have H1 : ((purlieuref02_bit.f a0 x7_2).bind fun t106 => (if t106 = true then (purlieuref02_Mask.l1 k2 a0 a1 (wrap64 (x7_2 + 1))) else (some (0, 93)))) = some (r1, r2) := by rw [if_pos rfl] at H; exact H
                clear H
                have H := H1
                clear H1
                replace H := Option.bind_eq_some_iff.mp H
                obtain ⟨t106, A170, H⟩ := H
                replace H : (if t106 = true then (purlieuref02_Mask.l1 k2 a0 a1 (wrap64 (x7_2 + 1))) else (some (0, 93))) = some (r1, r2) := H
                have A17 := Aside0.mk A170
                clear A170
                by_cases c18 : t106 = true
                · subst c18
                  have H1 : (purlieuref02_Mask.l1 k2 a0 a1 (wrap64 (x7_2 + 1))) = some (r1, r2) := by rw [if_pos rfl] at H; exact H
                  clear H
                  have H := H1
                  clear H1
                  have H' := Aside0.mk H
                  clear H
                  go_wp2_with (first | ((with_reducible refine gate_callee (f := 52) rfl ?_); refine goesL_ (some 34) rfl rfl Try.func52 (by kernel_rfl) rfl #[.int .i64 a1, .int .i64 x7_2] rfl (by (try simp only [List.map_toArray, List.map_cons, List.map_nil]); first | done | rfl | (simp only [List.length_drop, List.length_take]; rfl)) ?_; (with_reducible refine (purlieuref02_bit.calls a1 x7_2 true _ A15.out).mono ?_); rintro e w' ⟨rfl, ⟨nd, rfl⟩⟩; refine ⟨_, rfl, ?_⟩) | (go_at_call 52; (with_reducible refine (purlieuref02_bit.calls a0 x7_2 true _ A17.out).mono ?_); rintro e w' ⟨rfl, ⟨nd, rfl⟩⟩))
                  go_roundg k2
                  case measure => have := HK1.out; have := HK2.out; omega
                  case rel => exact ⟨(wrap64 (x7_2 + 1)), (by first | rfl | (simp; done) | (simp [*]; done)), H', ⟨by have := HK1.out; have := HK2.out; omega⟩, by repeat (first | exact Drawn0.refl _ | apply Drawn0.step)⟩
                · replace c18 := Bool.eq_false_iff.mpr c18
                  subst c18
                  have H1 : (some (0, 93)) = some (r1, r2) := by rw [if_neg (show ¬ (false = true) by decide)] at H; exact H
                  clear H
                  have H := H1
                  clear H1
                  simp only [Option.some.injEq, Prod.mk.injEq] at H
                  obtain ⟨rfl, rfl⟩ := H
                  go_wp2_with (first | ((with_reducible refine gate_callee (f := 52) rfl ?_); refine goesL_ (some 34) rfl rfl Try.func52 (by kernel_rfl) rfl #[.int .i64 a1, .int .i64 x7_2] rfl (by (try simp only [List.map_toArray, List.map_cons, List.map_nil]); first | done | rfl | (simp only [List.length_drop, List.length_take]; rfl)) ?_; (with_reducible refine (purlieuref02_bit.calls a1 x7_2 true _ A15.out).mono ?_); rintro e w' ⟨rfl, ⟨nd, rfl⟩⟩; refine ⟨_, rfl, ?_⟩) | (go_at_call 52; (with_reducible refine (purlieuref02_bit.calls a0 x7_2 false _ A17.out).mono ?_); rintro e w' ⟨rfl, ⟨nd, rfl⟩⟩))
                  go_ret2
                  exact ⟨by first | rfl | (simp; done) | (simp [*]; done), by repeat (first | exact Drawn0.refl _ | apply Drawn0.step)⟩
              · replace c16 := Bool.eq_false_iff.mpr c16
                subst c16
                have H1 : (purlieuref02_Mask.l1 k2 a0 a1 (wrap64 (x7_2 + 1))) = some (r1, r2) := by rw [if_neg (show ¬ (false = true) by decide)] at H; exact H
                clear H
                have H := H1
                clear H1
                have H' := Aside0.mk H
                clear H
                go_wp2_with (first | ((with_reducible refine gate_callee (f := 52) rfl ?_); refine goesL_ (some 34) rfl rfl Try.func52 (by kernel_rfl) rfl #[.int .i64 a1, .int .i64 x7_2] rfl (by (try simp only [List.map_toArray, List.map_cons, List.map_nil]); first | done | rfl | (simp only [List.length_drop, List.length_take]; rfl)) ?_; (with_reducible refine (purlieuref02_bit.calls a1 x7_2 false _ A15.out).mono ?_); rintro e w' ⟨rfl, ⟨nd, rfl⟩⟩; refine ⟨_, rfl, ?_⟩))
                go_roundg k2
                case measure => have := HK1.out; have := HK2.out; omega
                case rel => exact ⟨(wrap64 (x7_2 + 1)), (by first | rfl | (simp; done) | (simp [*]; done)), H', ⟨by have := HK1.out; have := HK2.out; omega⟩, by repeat (first | exact Drawn0.refl _ | apply Drawn0.step)⟩
            · rw [if_neg c14] at H
              have c14b0 : decide (x7_2 < 64) = false := decide_eq_false c14
              clear c14
              simp only [Option.some.injEq, Prod.mk.injEq] at H
              obtain ⟨rfl, rfl⟩ := H
              go_wp2
              go_ret2
              exact ⟨by first | rfl | (simp; done) | (simp [*]; done), by repeat (first | exact Drawn0.refl _ | apply Drawn0.step)⟩
end Go.Proofs.Ytilfalpfanaanaa.PA

namespace Go.Proofs.Ytilfalpfanaanaa.PA
open Go.RowKit Go.Proofs.YtilfalpfanaanaaW.PrintWords Go.Proofs.YtilfalpfanaanaaW.PrintLast Go.Proofs.YtilfalpfanaanaaW.PrintMore
attribute [local go_sem] max2_int min2_int max_two min_two max_three min_three max_four min_four   -- for this text's walks alone
def purlieuref13_Can.f (k : Nat) (a0_0 : Int) (a0_1 : Int) (a0_2 : Bool) (l0_3 : List Int) (a0_4 : Int) : Option (Bool) := (purlieuref02_Mask.f k 120 a0_4).bind fun bt112 => (if a0_0 > 0 then ((purlieuref02_Can.f k a0_2 l0_3).bind fun t114 => (if t114 = true then (some (bt112.2 == 0)) else (some false))) else (some false))
set_option maxHeartbeats 8000000 in
set_option maxRecDepth 100000 in
theorem purlieuref13_Can.calls (k : Nat) (a0_0 : Int) (a0_1 : Int) (a0_2 : Bool) (A0_3 : Option Addr) (c0_3 : Nat) (l0_3 : List Int) (a0_4 : Int) (r : Bool) (w : World) (hr0_3 : Kd.C (Kd.int .i64) w A0_3 l0_3.length l0_3) (hc0_3 : l0_3.length ≤ c0_3) (h : purlieuref13_Can.f k a0_0 a0_1 a0_2 l0_3 a0_4 = some r) :
    Calls Try.prog 9 #[.agg #[.int .i64 a0_0, .int .u32 a0_1, .bool a0_2, .slice A0_3 l0_3.length c0_3, .int .i64 a0_4]] w fun e w' => e = .returned (.bool r) ∧ Below w.heap.size w w' := by
  have hu28 := Try.underlying28
  have hu26 := Try.underlying26
  have HR0_3 := Aside0.mk hr0_3
  have HC0_3 := Aside0.mk hc0_3
  clear hr0_3 hc0_3
  have HB := Aside0.mk (Below.refl w.heap.size w)
  have H : ((purlieuref02_Mask.f k 120 a0_4).bind fun bt112 => (if a0_0 > 0 then ((purlieuref02_Can.f k a0_2 l0_3).bind fun t114 => (if t114 = true then (some (bt112.2 == 0)) else (some false))) else (some false))) = some r := h
  clear h
  replace H := Option.bind_eq_some_iff.mp H
  obtain ⟨⟨t112, t113⟩, A20, H⟩ := H
  replace H : (if a0_0 > 0 then ((purlieuref02_Can.f k a0_2 l0_3).bind fun t114 => (if t114 = true then (some (t113 == 0)) else (some false))) else (some false)) = some r := H
  have A2 := Aside0.mk A20
  clear A20
  by_cases c3 : a0_0 > 0
  · rw [if_pos c3] at H
    have c3b0 : decide (0 < a0_0) = true := decide_eq_true c3
    clear c3
    replace H := Option.bind_eq_some_iff.mp H
    obtain ⟨t114, A40, H⟩ := H
    replace H : (if t114 = true then (some (t113 == 0)) else (some false)) = some r := H
    have A4 := Aside0.mk A40
    clear A40
    by_cases c5 : t114 = true
    · subst c5
      have H1 : (some (t113 == 0)) = some r := by rw [if_pos rfl] at H; exact H
      clear H
      have H := H1
      clear H1
      obtain rfl := Option.some.inj H
      go_enter Try.func9, Try.ntmps9
      go_wp2_with (first | ((with_reducible refine gate_dst (N := 1) rfl ?_); refine box_event ?hg (N := 1) ?hd (cs := #[.int .i64 a0_0, .int .u32 a0_1, .bool a0_2, .slice A0_3 l0_3.length c0_3, .int .i64 a0_4]) (t := 28) ?hr ?_; (case hd => rfl); (case hg => rfl); (case hr => first | (go_simp; done) | (go_simp; rfl)); intro gb111 hg w6 hbox hb; have n0_ := Aside0.mk (below_step (by repeat (first | (with_reducible first | exact HB.out | apply below_alloc | apply pw_below_drewN | apply below_drew1) | exact HB.out)) hb); have n1_ := Aside0.mk (hbox); have n2_ := Aside0.mk ((by rw [hg]; exact (below_size (by repeat (first | (with_reducible first | exact HB.out | apply below_alloc | apply pw_below_drewN | apply below_drew1) | exact HB.out))) : w.heap.size ≤ gb111)); have n3_ := Aside0.mk ((by rw [hg]; exact (below_size (by repeat (first | (with_reducible first | exact HB.out | apply below_alloc | apply pw_below_drewN | apply below_drew1) | exact HB.out))) : w.heap.size ≤ gb111)); clear HB; have HB := n0_; have BK111 := n1_; have GW111 := n2_; have GE111 := n3_; clear n0_ n1_ n2_ n3_; clear hb hbox hg; have hcz7_0 : w6.cell? ⟨gb111, 0, none⟩ = some (.int .i64 a0_0) := (blk_cell BK111.out 0).trans rfl; have hcz7_1 : w6.cell? ⟨gb111, 1, none⟩ = some (.int .u32 a0_1) := (blk_cell BK111.out 1).trans rfl; have hcz7_2 : w6.cell? ⟨gb111, 2, none⟩ = some (.bool a0_2) := (blk_cell BK111.out 2).trans rfl; have hcz7_3 : w6.cell? ⟨gb111, 3, none⟩ = some (.slice A0_3 l0_3.length c0_3) := (blk_cell BK111.out 3).trans rfl; have hcz7_4 : w6.cell? ⟨gb111, 4, none⟩ = some (.int .i64 a0_4) := (blk_cell BK111.out 4).trans rfl; have hfz7_0 := blk_frozen BK111.out 0; have hfz7_1 := blk_frozen BK111.out 1; have hfz7_2 := blk_frozen BK111.out 2; have hfz7_3 := blk_frozen BK111.out 3; have hfz7_4 := blk_frozen BK111.out 4) | ((with_reducible refine gate_callee (f := 31) rfl ?_); refine goesL_ (some 8) rfl rfl Try.func31 (by kernel_rfl) rfl #[.int .i64 120, .int .i64 a0_4] rfl (by (try simp only [List.map_toArray, List.map_cons, List.map_nil]); first | done | rfl | (simp only [List.length_drop, List.length_take]; rfl)) ?_; (with_reducible refine (purlieuref02_Mask.calls k 120 a0_4 t112 t113 _ A2.out).mono ?_); rintro e w' ⟨rfl, ⟨nd, rfl⟩⟩; refine ⟨_, rfl, ?_⟩) | (go_at_call 32; (with_reducible refine (purlieuref02_Can.calls k a0_2 _ _ l0_3 true _ ?side1 ?side2 A4.out).mono ?_); (case side1 => repeat (first | exact (Kd.C_below HR0_3.out (by repeat (first | (with_reducible first | exact HB.out | apply below_alloc | apply pw_below_drewN | apply below_drew1 | refine below_set ?_ GE111.out) | exact HB.out))) | (with_reducible refine Kd.C_alloc ?_ _) | (with_reducible refine Kd.C_drewN ?_ _) | (with_reducible refine Kd.C_drew ?_))); (case side2 => exact HC0_3.out); rintro e w8 ⟨rfl, hb⟩; have n0_ := Aside0.mk (blk_below (g := gb111) (o := .cells #[.int .i64 a0_0, .int .u32 a0_1, .bool a0_2, .slice A0_3 l0_3.length c0_3, .int .i64 a0_4] 28 (0, 0)) (by (with_reducible repeat (first | refine blk_drewN ?_ _ | refine blk_drew ?_ | refine blk_alloc ?_ _)); exact BK111.out) hb); have n1_ := Aside0.mk (below_step (by repeat (first | (with_reducible first | exact HB.out | apply below_alloc | apply pw_below_drewN | apply below_drew1 | refine below_set ?_ GE111.out) | exact HB.out)) hb); clear BK111; clear HB; have BK111 := n0_; have HB := n1_; clear n0_ n1_; (try clear hb); (try clear hb2); (try clear hk); (try clear hi)))
      go_ret
      exact ⟨by first | rfl | (simp [errW_none, errW_some] <;> rfl) | (simp [*, errW_none, errW_some] <;> rfl), by repeat (first | (with_reducible first | exact HB.out | apply below_alloc | apply pw_below_drewN | apply below_drew1 | refine below_set ?_ GE111.out) | exact HB.out)⟩
    · replace c5 := Bool.eq_false_iff.mpr c5
      subst c5
      have H1 : (some false) = some r := by rw [if_neg (show ¬ (false = true) by decide)] at H; exact H
      clear H
      have H := H1
      clear H1
      obtain rfl := Option.some.inj H
      go_enter Try.func9, Try.ntmps9
      go_wp2_with (first | ((with_reducible refine gate_dst (N := 1) rfl ?_); refine box_event ?hg (N := 1) ?hd (cs := #[.int .i64 a0_0, .int .u32 a0_1, .bool a0_2, .slice A0_3 l0_3.length c0_3, .int .i64 a0_4]) (t := 28) ?hr ?_; (case hd => rfl); (case hg => rfl); (case hr => first | (go_simp; done) | (go_simp; rfl)); intro gb111 hg w9 hbox hb; have n0_ := Aside0.mk (below_step (by repeat (first | (with_reducible first | exact HB.out | apply below_alloc | apply pw_below_drewN | apply below_drew1) | exact HB.out)) hb); have n1_ := Aside0.mk (hbox); have n2_ := Aside0.mk ((by rw [hg]; exact (below_size (by repeat (first | (with_reducible first | exact HB.out | apply below_alloc | apply pw_below_drewN | apply below_drew1) | exact HB.out))) : w.heap.size ≤ gb111)); have n3_ := Aside0.mk ((by rw [hg]; exact (below_size (by repeat (first | (with_reducible first | exact HB.out | apply below_alloc | apply pw_below_drewN | apply below_drew1) | exact HB.out))) : w.heap.size ≤ gb111)); clear HB; have HB := n0_; have BK111 := n1_; have GW111 := n2_; have GE111 := n3_; clear n0_ n1_ n2_ n3_; clear hb hbox hg; have hcz10_0 : w9.cell? ⟨gb111, 0, none⟩ = some (.int .i64 a0_0) := (blk_cell BK111.out 0).trans rfl; have hcz10_1 : w9.cell? ⟨gb111, 1, none⟩ = some (.int .u32 a0_1) := (blk_cell BK111.out 1).trans rfl; have hcz10_2 : w9.cell? ⟨gb111, 2, none⟩ = some (.bool a0_2) := (blk_cell BK111.out 2).trans rfl; have hcz10_3 : w9.cell? ⟨gb111, 3, none⟩ = some (.slice A0_3 l0_3.length c0_3) := (blk_cell BK111.out 3).trans rfl; have hcz10_4 : w9.cell? ⟨gb111, 4, none⟩ = some (.int .i64 a0_4) := (blk_cell BK111.out 4).trans rfl; have hfz10_0 := blk_frozen BK111.out 0; have hfz10_1 := blk_frozen BK111.out 1; have hfz10_2 := blk_frozen BK111.out 2; have hfz10_3 := blk_frozen BK111.out 3; have hfz10_4 := blk_frozen BK111.out 4) | ((with_reducible refine gate_callee (f := 31) rfl ?_); refine goesL_ (some 8) rfl rfl Try.func31 (by kernel_rfl) rfl #[.int .i64 120, .int .i64 a0_4] rfl (by (try simp only [List.map_toArray, List.map_cons, List.map_nil]); first | done | rfl | (simp only [List.length_drop, List.length_take]; rfl)) ?_; (with_reducible refine (purlieuref02_Mask.calls k 120 a0_4 t112 t113 _ A2.out).mono ?_); rintro e w' ⟨rfl, ⟨nd, rfl⟩⟩; refine ⟨_, rfl, ?_⟩) | (go_at_call 32; (with_reducible refine (purlieuref02_Can.calls k a0_2 _ _ l0_3 false _ ?side1 ?side2 A4.out).mono ?_); (case side1 => repeat (first | exact (Kd.C_below HR0_3.out (by repeat (first | (with_reducible first | exact HB.out | apply below_alloc | apply pw_below_drewN | apply below_drew1 | refine below_set ?_ GE111.out) | exact HB.out))) | (with_reducible refine Kd.C_alloc ?_ _) | (with_reducible refine Kd.C_drewN ?_ _) | (with_reducible refine Kd.C_drew ?_))); (case side2 => exact HC0_3.out); rintro e w11 ⟨rfl, hb⟩; have n0_ := Aside0.mk (blk_below (g := gb111) (o := .cells #[.int .i64 a0_0, .int .u32 a0_1, .bool a0_2, .slice A0_3 l0_3.length c0_3, .int .i64 a0_4] 28 (0, 0)) (by (with_reducible repeat (first | refine blk_drewN ?_ _ | refine blk_drew ?_ | refine blk_alloc ?_ _)); exact BK111.out) hb); have n1_ := Aside0.mk (below_step (by repeat (first | (with_reducible first | exact HB.out | apply below_alloc | apply pw_below_drewN | apply below_drew1 | refine below_set ?_ GE111.out) | exact HB.out)) hb); clear BK111; clear HB; have BK111 := n0_; have HB := n1_; clear n0_ n1_; (try clear hb); (try clear hb2); (try clear hk); (try clear hi)))
      go_ret
      exact ⟨by first | rfl | (simp [errW_none, errW_some] <;> rfl) | (simp [*, errW_none, errW_some] <;> rfl), by repeat (first | (with_reducible first | exact HB.out | apply below_alloc | apply pw_below_drewN | apply below_drew1 | refine below_set ?_ GE111.out) | exact HB.out)⟩
  · rw [if_neg c3] at H
    have c3b0 : decide (0 < a0_0) = false := decide_eq_false c3
    clear c3
    obtain rfl := Option.some.inj H
    go_enter Try.func9, Try.ntmps9
    go_wp2_with (first | ((with_reducible refine gate_dst (N := 1) rfl ?_); refine box_event ?hg (N := 1) ?hd (cs := #[.int .i64 a0_0, .int .u32 a0_1, .bool a0_2, .slice A0_3 l0_3.length c0_3, .int .i64 a0_4]) (t := 28) ?hr ?_; (case hd => rfl); (case hg => rfl); (case hr => first | (go_simp; done) | (go_simp; rfl)); intro gb111 hg w12 hbox hb; have n0_ := Aside0.mk (below_step (by repeat (first | (with_reducible first | exact HB.out | apply below_alloc | apply pw_below_drewN | apply below_drew1) | exact HB.out)) hb); have n1_ := Aside0.mk (hbox); have n2_ := Aside0.mk ((by rw [hg]; exact (below_size (by repeat (first | (with_reducible first | exact HB.out | apply below_alloc | apply pw_below_drewN | apply below_drew1) | exact HB.out))) : w.heap.size ≤ gb111)); have n3_ := Aside0.mk ((by rw [hg]; exact (below_size (by repeat (first | (with_reducible first | exact HB.out | apply below_alloc | apply pw_below_drewN | apply below_drew1) | exact HB.out))) : w.heap.size ≤ gb111)); clear HB; have HB := n0_; have BK111 := n1_; have GW111 := n2_; have GE111 := n3_; clear n0_ n1_ n2_ n3_; clear hb hbox hg; have hcz13_0 : w12.cell? ⟨gb111, 0, none⟩ = some (.int .i64 a0_0) := (blk_cell BK111.out 0).trans rfl; have hcz13_1 : w12.cell? ⟨gb111, 1, none⟩ = some (.int .u32 a0_1) := (blk_cell BK111.out 1).trans rfl; have hcz13_2 : w12.cell? ⟨gb111, 2, none⟩ = some (.bool a0_2) := (blk_cell BK111.out 2).trans rfl; have hcz13_3 : w12.cell? ⟨gb111, 3, none⟩ = some (.slice A0_3 l0_3.length c0_3) := (blk_cell BK111.out 3).trans rfl; have hcz13_4 : w12.cell? ⟨gb111, 4, none⟩ = some (.int .i64 a0_4) := (blk_cell BK111.out 4).trans rfl; have hfz13_0 := blk_frozen BK111.out 0; have hfz13_1 := blk_frozen BK111.out 1; have hfz13_2 := blk_frozen BK111.out 2; have hfz13_3 := blk_frozen BK111.out 3; have hfz13_4 := blk_frozen BK111.out 4) | ((with_reducible refine gate_callee (f := 31) rfl ?_); refine goesL_ (some 8) rfl rfl Try.func31 (by kernel_rfl) rfl #[.int .i64 120, .int .i64 a0_4] rfl (by (try simp only [List.map_toArray, List.map_cons, List.map_nil]); first | done | rfl | (simp only [List.length_drop, List.length_take]; rfl)) ?_; (with_reducible refine (purlieuref02_Mask.calls k 120 a0_4 t112 t113 _ A2.out).mono ?_); rintro e w' ⟨rfl, ⟨nd, rfl⟩⟩; refine ⟨_, rfl, ?_⟩))
    go_ret
    exact ⟨by first | rfl | (simp [errW_none, errW_some] <;> rfl) | (simp [*, errW_none, errW_some] <;> rfl), by repeat (first | (with_reducible first | exact HB.out | apply below_alloc | apply pw_below_drewN | apply below_drew1 | refine below_set ?_ GE111.out) | exact HB.out)⟩
def purlieuref02_Nums.l0 : Nat → List Int → List Int → Int → Option (Bool)
  | 0, _, _, _ => none
  | k + 1, x0, x1, x5 => if x5 < (x0.length : Int) then (if 0 ≤ x5 then (if x5 < (x1.length : Int) then (if (rd x0 x5) = (rd x1 x5) then (purlieuref02_Nums.l0 k x0 x1 (wrap64 (x5 + 1))) else (some false)) else (none)) else (none)) else (some true)
def purlieuref02_Nums.f (k : Nat) (l0 : List Int) (l1 : List Int) : Option (Bool) := if (l0.length : Int) = (l1.length : Int) then (purlieuref02_Nums.l0 k l0 l1 0) else (some false)
set_option maxHeartbeats 8000000 in
set_option maxRecDepth 100000 in
theorem purlieuref02_Nums.calls (k : Nat) (A0 : Option Addr) (c0 : Nat) (l0 : List Int) (A1 : Option Addr) (c1 : Nat) (l1 : List Int) (r : Bool) (w : World) (hr0 : Kd.C (Kd.int .i64) w A0 l0.length l0) (hc0 : l0.length ≤ c0) (hr1 : Kd.C (Kd.int .i64) w A1 l1.length l1) (hc1 : l1.length ≤ c1) (h : purlieuref02_Nums.f k l0 l1 = some r) :
    Calls Try.prog 49 #[.slice A0 l0.length c0, .slice A1 l1.length c1] w fun e w' => e = .returned (.bool r) ∧ Drawn0 w w' := by
  have HR0 := Aside0.mk hr0
  have HC0 := Aside0.mk hc0
  clear hr0 hc0
  have HR1 := Aside0.mk hr1
  have HC1 := Aside0.mk hc1
  clear hr1 hc1
  have H : (if (l0.length : Int) = (l1.length : Int) then (purlieuref02_Nums.l0 k l0 l1 0) else (some false)) = some r := h
  clear h
  by_cases c3 : (l0.length : Int) = (l1.length : Int)
  · rw [if_pos c3] at H
    have c3b0 : ((l0.length : Int) == (l1.length : Int)) = true := beq_iff_eq.mpr c3
    have c3b1 : ((l0.length : Int) != (l1.length : Int)) = false := bne_eq_false_iff_eq.mpr c3
    have c3b2 : (l0.length == l1.length) = true := by first | simpa using c3 | (simp at c3 ⊢; omega)
    clear c3
    have H' := Aside0.mk H
    clear H
    go_enter Try.func49, Try.ntmps49
    go_wp2
    repeat (go_quiet (fail); try go_wp2)
    go_loopg [5] k (fun kq v5 w' => ∃ (x5_1 : Int), v5 = .int .i64 x5_1 ∧ Aside0 (purlieuref02_Nums.l0 kq l0 l1 x5_1 = some r) ∧ Aside0 (kq ≤ k) ∧ Drawn0 w w')
    case atStart => exact ⟨(0), (by first | rfl | (simp; done) | (simp [*]; done)), H', ⟨Nat.le_refl _⟩, by repeat (first | exact Drawn0.refl _ | apply Drawn0.step)⟩
    case round =>
      clear H'
      try clear c1
      try clear p2
      try clear c3
      try clear c3b0
      try clear c3b1
      try clear c3b2
      obtain ⟨x5_1, rfl, HA, HK1, ⟨m1, rfl⟩⟩ := hrel
      cases gk with
      | zero => exact absurd HA.out (by simp [purlieuref02_Nums.l0])
      | succ k1 =>
        have H := HA.out
        clear HA
        simp only [purlieuref02_Nums.l0] at H
        by_cases c4 : x5_1 < (l0.length : Int)
        · rw [if_pos c4] at H
          have c4b0 : decide (x5_1 < (l0.length : Int)) = true := decide_eq_true c4
          clear c4
          by_cases c5 : 0 ≤ x5_1
          · rw [if_pos c5] at H
            have c5b0 : decide (0 ≤ x5_1) = true := decide_eq_true c5
            clear c5
            by_cases c6 : x5_1 < (l1.length : Int)
            · rw [if_pos c6] at H
              have c6b0 : decide (x5_1 < (l1.length : Int)) = true := decide_eq_true c6
              clear c6
              by_cases c7 : (rd l0 x5_1) = (rd l1 x5_1)
              · rw [if_pos c7] at H
                have c7b0 : ((rd l0 x5_1) == (rd l1 x5_1)) = true := beq_iff_eq.mpr c7
                have c7b1 : ((rd l0 x5_1) != (rd l1 x5_1)) = false := bne_eq_false_iff_eq.mpr c7
                clear c7
                have H' := Aside0.mk H
                clear H
                have p115 : 0 ≤ (x5_1 : Int) := of_decide_eq_true (by first | (with_reducible assumption) | assumption)
                have q115 : x5_1 < (l0.length : Int) := of_decide_eq_true (by first | (with_reducible assumption) | assumption)
                obtain ⟨ad115, e115, hx115_0⟩ := Kd.at_int HR0.out x5_1 p115 q115
                cases e115
                replace p115 := eq_true p115
                replace q115 := eq_true q115
                have p116 : 0 ≤ (x5_1 : Int) := of_decide_eq_true (by first | (with_reducible assumption) | assumption)
                have q116 : x5_1 < (l1.length : Int) := of_decide_eq_true (by first | (with_reducible assumption) | assumption)
                obtain ⟨ad116, e116, hx116_0⟩ := Kd.at_int HR1.out x5_1 p116 q116
                cases e116
                replace p116 := eq_true p116
                replace q116 := eq_true q116
                go_wp2
                repeat (go_quiet (fail); try go_wp2)
                go_roundg k1
                case measure => have := HK1.out; omega
                case rel => exact ⟨(wrap64 (x5_1 + 1)), (by first | rfl | (simp; done) | (simp [*]; done)), H', ⟨by have := HK1.out; omega⟩, by repeat (first | exact Drawn0.refl _ | apply Drawn0.step)⟩
              · rw [if_neg c7] at H
                have c7b0 : ((rd l0 x5_1) == (rd l1 x5_1)) = false := beq_eq_false_iff_ne.mpr c7
                have c7b1 : ((rd l0 x5_1) != (rd l1 x5_1)) = true := bne_iff_ne.mpr c7
                obtain rfl := Option.some.inj H
                have p115 : 0 ≤ (x5_1 : Int) := of_decide_eq_true (by first | (with_reducible assumption) | assumption)
                have q115 : x5_1 < (l0.length : Int) := of_decide_eq_true (by first | (with_reducible assumption) | assumption)
                obtain ⟨ad115, e115, hx115_0⟩ := Kd.at_int HR0.out x5_1 p115 q115
                cases e115
                replace p115 := eq_true p115
                replace q115 := eq_true q115
                have p116 : 0 ≤ (x5_1 : Int) := of_decide_eq_true (by first | (with_reducible assumption) | assumption)
                have q116 : x5_1 < (l1.length : Int) := of_decide_eq_true (by first | (with_reducible assumption) | assumption)
                obtain ⟨ad116, e116, hx116_0⟩ := Kd.at_int HR1.out x5_1 p116 q116
                cases e116
                replace p116 := eq_true p116
                replace q116 := eq_true q116
                go_wp2
                repeat (go_quiet (fail); try go_wp2)
                go_ret
                exact ⟨by first | rfl | (simp; done) | (simp [*]; done), by repeat (first | exact Drawn0.refl _ | apply Drawn0.step)⟩
            · rw [if_neg c6] at H
              exact absurd H (by simp)
          · rw [if_neg c5] at H
            exact absurd H (by simp)
        · rw [if_neg c4] at H
          have c4b0 : decide (x5_1 < (l0.length : Int)) = false := decide_eq_false c4
          clear c4
          obtain rfl := Option.some.inj H
          go_wp2
          repeat (go_quiet (fail); try go_wp2)
          go_ret
          exact ⟨by first | rfl | (simp; done) | (simp [*]; done), by repeat (first | exact Drawn0.refl _ | apply Drawn0.step)⟩
  · rw [if_neg c3] at H
    have c3b0 : ((l0.length : Int) == (l1.length : Int)) = false := beq_eq_false_iff_ne.mpr c3
    have c3b1 : ((l0.length : Int) != (l1.length : Int)) = true := bne_iff_ne.mpr c3
    have c3b2 : (l0.length == l1.length) = false := by first | simpa using c3 | (simp at c3 ⊢; omega)
    obtain rfl := Option.some.inj H
    go_enter Try.func49, Try.ntmps49
    go_wp2
    repeat (go_quiet (fail); try go_wp2)
    go_ret
    exact ⟨by first | rfl | (simp; done) | (simp [*]; done), by repeat (first | exact Drawn0.refl _ | apply Drawn0.step)⟩
end Go.Proofs.Ytilfalpfanaanaa.PA
