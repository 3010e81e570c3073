/-
  Crossings: what each function gives.
-/
import Derived.Test.YtfilgpifiboccaaGreatFa
namespace Go.Proofs.YtfilgpifiboccaaGreat
open Ev

end Go.Proofs.YtfilgpifiboccaaGreat
