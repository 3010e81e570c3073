/-
  Equality of solutions at an operation.
-/
import Derived.Test.YtmididlfnajhiaaGreatDoorA30
namespace Go.Proofs.YtmididlfnajhiaaGreatDoor
open Go.RowKit
open Ev (Glob Gives)
theorem at1' {P : Program} {g : FuncId} {a V : Value} (h : Gives P g [a] V) {w : World} (hg : Glob w) : Calls P g #[a] w (GP V w) := h w hg
theorem eqSol (a b : Sol) (w : World) : (Op.equalIn 10000 28 (.agg #[.int .i64 a.1, .int .i64 a.2.1, .int .i64 a.2.2.1, .int .i64 a.2.2.2]) (.agg #[.int .i64 b.1, .int .i64 b.2.1, .int .i64 b.2.2.1, .int .i64 b.2.2.2])).run Tryz.prog w = .ok (eqS a b) w := by
  have := fitSol.2 [.int .i64 a.1, .int .i64 a.2.1, .int .i64 a.2.2.1, .int .i64 a.2.2.2] [.int .i64 b.1, .int .i64 b.2.1, .int .i64 b.2.2.1, .int .i64 b.2.2.2] (eqS a b) rfl rfl (by unfold eqS; simp [Ev.eqInts]) w
  exact this
end Go.Proofs.YtmididlfnajhiaaGreatDoor
