/-
  halfangle.Angle: its closed form, and that the angle by three sides holds the true one. No program here.
-/
import Derived.Test.YtfilgpifiboccaaGreatFa
import Derived.Test.YtfilgpifiboccaaGreatCd
namespace Go.Proofs.YtfilgpifiboccaaGreat
open SM TB TA
open Ev (lt keepE)
def Tri (ε A B C x : Rat) : Prop := Cl ε (co A) (co B * co C + si B * si C * co x)
theorem Tri.wide {ε f A B C x : Rat} (h : Tri ε A B C x) (k : ε ≤ f) : Tri f A B C x := Cl.wide h k
end Go.Proofs.YtfilgpifiboccaaGreat
