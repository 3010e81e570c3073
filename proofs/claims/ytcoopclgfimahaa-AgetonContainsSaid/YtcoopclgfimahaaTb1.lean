/-
  Sine and cosine of rational angles, nearer than any need: the constants. No program here.
-/
import Derived.Test.YtcoopclgfimahaaTa
namespace Go.Proofs.Ytcoopclgfimahaa
namespace TB
open SM TA
/-- A power of a half. -/
def pw (n : Nat) : Rat := 1 / ((2 ^ n : Nat) : Rat)
/-- Half a turn to 1340 bits; the length of a unit; what is neglected. -/
def piN : Nat := 75395263336496240043539632267915740513438896605543887648543951301235474704297417759786603122946847429239520192669015113618103265985859633543330007055332415689422105886849486358430678041216820501992543940526902613990085013849517348944582279495429396778144409534867083621506381784228327521597129130760664710989803992088066617013632349793645355264484184899963833633582041051205429771830628150363941290059265
def tb : Rat := (piN : Rat) * pw 1340 / 10800000
def u0 : Rat := pw 1300
def e0 : Rat := 1048576 * u0
def cn (x : Rat) : Rat := Cn 400 x
def sn (x : Rat) : Rat := Sn 400 x
theorem rest_B : rest 400 (32 / 5) ≤ u0 := by decide +kernel
theorem quart_B : (-u0 ≤ Cn 400 (tb * 5400000) ∧ Cn 400 (tb * 5400000) ≤ u0) ∧ -u0 ≤ Sn 400 (tb * 5400000) - 1 ∧ Sn 400 (tb * 5400000) - 1 ≤ u0 := by decide +kernel
theorem third_B : -u0 ≤ Sn 400 (tb * 1800000) - 1 / 2 ∧ Sn 400 (tb * 1800000) - 1 / 2 ≤ u0 := by decide +kernel
theorem zero_B : Cn 400 0 = 1 ∧ Sn 400 0 = 0 := by decide +kernel
theorem tb_bd : 1 / 3437750 ≤ tb ∧ tb ≤ 1 / 3437740 := by decide +kernel
theorem u0_bd : 0 < u0 ∧ u0 ≤ 1 / 2 ^ 200 := by decide +kernel
theorem e0_bd : 0 < e0 ∧ e0 ≤ 1 / 2 ^ 200 := by decide +kernel
end TB
end Go.Proofs.Ytcoopclgfimahaa
