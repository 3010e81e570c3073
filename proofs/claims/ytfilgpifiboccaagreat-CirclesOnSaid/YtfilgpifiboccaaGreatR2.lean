/-
  The reference's operations are the program's, where all is valid.
-/
import Derived.Test.YtfilgpifiboccaaGreatR1
import Derived.Test.YtfilgpifiboccaaGreatCd
import Derived.Test.YtfilgpifiboccaaGreatXa
namespace Go.Proofs.YtfilgpifiboccaaGreat
open Ev

open SM TB TA
open Ev (lt keepE)
theorem decT {p : Prop} [Decidable p] (h : p) : decide p = true := decide_eq_true h
theorem decF {p : Prop} [Decidable p] (h : ¬ p) : decide p = false := decide_eq_false h
theorem rval_eq (a b : Int) : rvalM a b = avalidB a b := by
  unfold rvalM avalidB
  by_cases h1 : a ≤ b
  · by_cases h2 : a ≥ -1099511627776
    · rw [decT h1, decT h2, cond_true, cond_true]
      exact decide_eq_decide.2 (by omega)
    · rw [decT h1, decF h2, cond_true, cond_false, decF (by omega)]
  · rw [decF h1, cond_false, decF (by omega)]
end Go.Proofs.YtfilgpifiboccaaGreat
