/- The walks of white's laws, out of the printed contracts and the plain laws. -/
import Derived.Test.YtphblnibjiohjaaDoorW2
namespace Go.Proofs.YtphblnibjiohjaaDoor.PA
open Go.RowKit Go.Proofs.YtphblnibjiohjaaDoorW.PrintWords Go.Proofs.YtphblnibjiohjaaDoorW.PrintLast Go.Proofs.YtphblnibjiohjaaDoorW.PrintMore
def RowIs (w : World) (a : Option Addr) (len cap : Nat) (zs : List Int) : Prop :=
  (a = none ∧ len = 0 ∧ cap = 0 ∧ zs = []) ∨
  ∃ x, a = some x ∧ len ≤ cap ∧ cap ≤ maxLen ∧ zs.length = cap ∧ (∀ i, i < zs.length → w.cell? (x.add i) = some (.int .i64 (zs.getD i 0))) ∧ ∀ n ∈ zs, (Lit.int .i64 n).wf = true
theorem row_C {w : World} {a : Option Addr} {len cap : Nat} {zs : List Int} (h : RowIs w a len cap zs) :
    ∃ l : List Int, len = l.length ∧ Kd.C (Kd.int .i64) w a l.length l ∧ l.length ≤ cap ∧ ∀ x ∈ l, (Lit.int .i64 x).wf = true := by
  obtain ⟨l, rfl, hr, hm, hw, hc⟩ := ReadsInt.ofRowC h
  exact ⟨l, rfl, Kd.C_of_reads (d := (0 : Int)) (h1 := fun _ => rfl) hr, hc, hw⟩
theorem whiteHas_walk (W : World) {a : Option Addr} {len cap : Nat} {zs : List Int} (o : Bool) (h : RowIs W a len cap zs) (c : Int) (_hc : (Lit.int .i64 c).wf = true) :
    Calls Tryd.prog 3 #[.agg #[.bool o, .slice a len cap], .int .i64 c] W fun e w' => e = .returned (.bool true) ∧ Below W.heap.size W w' := by
  obtain ⟨l, rfl, hr, hl, _⟩ := row_C h
  obtain ⟨k, hk⟩ := WhiteHas o l c
  exact purlieulaw02_WhiteHas.calls k o a cap l c true W hr hl hk
end Go.Proofs.YtphblnibjiohjaaDoor.PA
