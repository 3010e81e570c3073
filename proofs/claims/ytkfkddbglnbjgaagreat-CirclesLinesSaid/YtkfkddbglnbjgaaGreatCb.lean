/-
  Circles of position: how far a point within a circle is from its centre, in latitude and in longitude. No program here.
-/
import Derived.Test.YtkfkddbglnbjgaaGreatCa
namespace Go.Proofs.YtkfkddbglnbjgaaGreat
open SM TB TA
end Go.Proofs.YtkfkddbglnbjgaaGreat
