/-
  halfangle.Angle: what each function gives.
-/
import Derived.Test.YtfilgpifiboccaaGreatFk
namespace Go.Proofs.YtfilgpifiboccaaGreat
open Ev

end Go.Proofs.YtfilgpifiboccaaGreat
