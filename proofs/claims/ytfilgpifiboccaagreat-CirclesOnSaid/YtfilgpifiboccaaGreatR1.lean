/-
  The reference's operations: what each function gives.
-/
import Derived.Test.YtfilgpifiboccaaGreatFx
import Derived.Test.YtfilgpifiboccaaGreatT50
import Derived.Test.YtfilgpifiboccaaGreatBg
namespace Go.Proofs.YtfilgpifiboccaaGreat
open Ev

open SM
def intBoolV (r : Int × Bool) : Value := .tuple ⟨[.int .i64 r.1, .bool r.2]⟩
def intsV (r : Int × Int) : Value := .tuple ⟨[.int .i64 r.1, .int .i64 r.2]⟩
def rflR (n : Int) : Int × Bool := (lob n, exa (red n))
theorem rflR_gives (n : Int) : Gives Tryz.prog 177 [.int .i64 n] (intBoolV (rflR n)) := fun w => rfloor_any n w
noncomputable def rendsMK {α : Type} (K : Int → Int → α) (a : Int) : α := lt (rflR a) fun x1 => cond x1.2 (K x1.1 x1.1) (K x1.1 (IntKind.i64.wrap (x1.1 + 1)))
noncomputable def rendsM (a : Int) : Int × Int := rendsMK (fun p0 p1 => (p0, p1)) a
noncomputable def kR10 : Book := (107, eP (fun a b => arcV (asinR a b))) :: (108, ePP (fun a b c d => arcV (bearR a b c d))) :: (177, eI (fun a => intBoolV (rflR a))) :: []
theorem kR10_ok : BookOk Tryz.prog kR10 := (bookOk_cons (eP_ok rasin_r) (bookOk_cons (ePP_ok rbear) (bookOk_cons (eI_ok rflR_gives) bookOk_nil)))
theorem rendsM_gives (a : Int) : Gives Tryz.prog 159 [.int .i64 a] (intsV (rendsM a)) := by
  refine ev6_gives Es_ok kR10_ok (t := rendsMK (fun p0 p1 => some (.v (intsV ((p0, p1))))) a) (by kernel_rfl) ?_
  unfold rendsM rendsMK
  repeat' first | (with_reducible refine case_cond (fun r : Int × Int => AV.v (intsV (r))) ?_ ?_) | (with_reducible refine case_lt (fun r : Int × Int => AV.v (intsV (r))) fun _ => ?_) | rfl
noncomputable def rhasM (a b c : Int) : Bool := cond (decide ((Int.tmod (IntKind.i64.wrap (c - a)) 21600000) < 0)) ((decide (IntKind.i64.wrap (a + (IntKind.i64.wrap ((Int.tmod (IntKind.i64.wrap (c - a)) 21600000) + 21600000))) ≤ b))) ((decide (IntKind.i64.wrap (a + (Int.tmod (IntKind.i64.wrap (c - a)) 21600000)) ≤ b)))
noncomputable def kR11 : Book := (159, eI (fun a => intsV (rendsM a))) :: kR10
theorem kR11_ok : BookOk Tryz.prog kR11 := (bookOk_cons (eI_ok rendsM_gives) kR10_ok)
theorem rhasM_gives (a b c : Int) : Gives Tryz.prog 160 [.agg ⟨[.int .i64 a, .int .i64 b]⟩, .int .i64 c] (.bool (rhasM a b c)) := by
  refine ev6_gives Es_ok kR11_ok (t := cond (decide ((Int.tmod (IntKind.i64.wrap (c - a)) 21600000) < 0)) (some (.v (.bool (decide (IntKind.i64.wrap (a + (IntKind.i64.wrap ((Int.tmod (IntKind.i64.wrap (c - a)) 21600000) + 21600000))) ≤ b))))) (some (.v (.bool (decide (IntKind.i64.wrap (a + (Int.tmod (IntKind.i64.wrap (c - a)) 21600000)) ≤ b)))))) (by kernel_rfl) ?_
  unfold rhasM
  repeat' first | (with_reducible refine case_cond (fun r : Bool => AV.v (.bool (r))) ?_ ?_) | (with_reducible refine case_lt (fun r : Bool => AV.v (.bool (r))) fun _ => ?_) | rfl
noncomputable def rsineMK {α : Type} (K : Int → Int → α) (a b : Int) : α := lt (rendsM a) fun x1 => lt (rendsM b) fun x2 => cond (rhasM a b 5400000) (cond (rhasM a b (-5400000)) (K (-1073741824) 1073741824) (K (mn x1.1 x2.1) 1073741824)) (cond (rhasM a b (-5400000)) (K (-1073741824) (mx x1.2 x2.2)) (K (mn x1.1 x2.1) (mx x1.2 x2.2)))
noncomputable def rsineM (a b : Int) : Int × Int := rsineMK (fun p0 p1 => (p0, p1)) a b
noncomputable def kR12 : Book := (160, ePI (fun a b c => .bool (rhasM a b c))) :: kR11
theorem kR12_ok : BookOk Tryz.prog kR12 := (bookOk_cons (ePI_ok rhasM_gives) kR11_ok)
theorem rsineM_gives (a b : Int) : Gives Tryz.prog 129 [.agg ⟨[.int .i64 a, .int .i64 b]⟩] (pairV (rsineM a b).1 (rsineM a b).2) := by
  refine ev6_gives Es_ok kR12_ok (t := rsineMK (fun p0 p1 => some (.v (pairV ((p0, p1)).1 ((p0, p1)).2))) a b) (by kernel_rfl) ?_
  unfold rsineM rsineMK
  repeat' first | (with_reducible refine case_cond (fun r : Int × Int => AV.v (pairV (r).1 (r).2)) ?_ ?_) | (with_reducible refine case_lt (fun r : Int × Int => AV.v (pairV (r).1 (r).2)) fun _ => ?_) | rfl
noncomputable def rsinM (a b : Int) : Int × Int := lt (rsineM a b) fun x1 => (x1.1, x1.2)
noncomputable def kR13 : Book := (129, eP (fun a b => pairV (rsineM a b).1 (rsineM a b).2)) :: kR12
theorem kR13_ok : BookOk Tryz.prog kR13 := (bookOk_cons (eP_ok rsineM_gives) kR12_ok)
theorem rsinM_gives (a b : Int) : Gives Tryz.prog 99 [.agg ⟨[.int .i64 a, .int .i64 b]⟩] (pairV (rsinM a b).1 (rsinM a b).2) := ev6_gives Es_ok kR13_ok (by kernel_rfl) rfl
noncomputable def rcosM (a b : Int) : Int × Int := lt (rsineM (IntKind.i64.wrap (a + 5400000)) (IntKind.i64.wrap (b + 5400000))) fun x1 => (x1.1, x1.2)
noncomputable def kR14 : Book := (99, eP (fun a b => pairV (rsinM a b).1 (rsinM a b).2)) :: kR13
theorem kR14_ok : BookOk Tryz.prog kR14 := (bookOk_cons (eP_ok rsinM_gives) kR13_ok)
theorem rcosM_gives (a b : Int) : Gives Tryz.prog 103 [.agg ⟨[.int .i64 a, .int .i64 b]⟩] (pairV (rcosM a b).1 (rcosM a b).2) := ev6_gives Es_ok kR14_ok (by kernel_rfl) rfl
noncomputable def rfitMK {α : Type} (K : Int → Int → Int → α) (a b : Int) : α := cond (decide (a < (-2147483648))) (K 0 0 5) (cond (decide (b > 2147483648)) (K 0 0 5) (K a b 0))
noncomputable def rfitM (a b : Int) : Int × Int × Int := rfitMK (fun p0 p1 p2 => (p0, p1, p2)) a b
noncomputable def kR15 : Book := (103, eP (fun a b => pairV (rcosM a b).1 (rcosM a b).2)) :: kR14
theorem kR15_ok : BookOk Tryz.prog kR15 := (bookOk_cons (eP_ok rcosM_gives) kR14_ok)
theorem rfitM_gives (a b : Int) : Gives Tryz.prog 137 [.int .i64 a, .int .i64 b] (arcV (rfitM a b)) := by
  refine ev6_gives Es_ok kR15_ok (t := rfitMK (fun p0 p1 p2 => some (.v (arcV ((p0, p1, p2))))) a b) (by kernel_rfl) ?_
  unfold rfitM rfitMK
  repeat' first | (with_reducible refine case_cond (fun r : Int × Int × Int => AV.v (arcV (r))) ?_ ?_) | (with_reducible refine case_lt (fun r : Int × Int × Int => AV.v (arcV (r))) fun _ => ?_) | rfl
noncomputable def rlstM (a b : Int) : Int := cond (decide (b < a)) (b) (a)
noncomputable def kR16 : Book := (137, eII (fun a b => arcV (rfitM a b))) :: kR15
theorem kR16_ok : BookOk Tryz.prog kR16 := (bookOk_cons (eII_ok rfitM_gives) kR15_ok)
theorem rlstM_gives (a b : Int) : Gives Tryz.prog 133 [.int .i64 a, .int .i64 b] (.int .i64 (rlstM a b)) := by
  refine ev6_gives Es_ok kR16_ok (t := cond (decide (b < a)) (some (.v (.int .i64 b))) (some (.v (.int .i64 a)))) (by kernel_rfl) ?_
  unfold rlstM
  repeat' first | (with_reducible refine case_cond (fun r : Int => AV.v (.int .i64 (r))) ?_ ?_) | (with_reducible refine case_lt (fun r : Int => AV.v (.int .i64 (r))) fun _ => ?_) | rfl
noncomputable def rmstM (a b : Int) : Int := cond (decide (a < b)) (b) (a)
noncomputable def kR17 : Book := (133, eII (fun a b => .int .i64 (rlstM a b))) :: kR16
theorem kR17_ok : BookOk Tryz.prog kR17 := (bookOk_cons (eII_ok rlstM_gives) kR16_ok)
theorem rmstM_gives (a b : Int) : Gives Tryz.prog 135 [.int .i64 a, .int .i64 b] (.int .i64 (rmstM a b)) := by
  refine ev6_gives Es_ok kR17_ok (t := cond (decide (a < b)) (some (.v (.int .i64 b))) (some (.v (.int .i64 a)))) (by kernel_rfl) ?_
  unfold rmstM
  repeat' first | (with_reducible refine case_cond (fun r : Int => AV.v (.int .i64 (r))) ?_ ?_) | (with_reducible refine case_lt (fun r : Int => AV.v (.int .i64 (r))) fun _ => ?_) | rfl
noncomputable def kR18 : Book := (135, eII (fun a b => .int .i64 (rmstM a b))) :: kR17
theorem kR18_ok : BookOk Tryz.prog kR18 := (bookOk_cons (eII_ok rmstM_gives) kR17_ok)
noncomputable def rnegM (a b : Int) : Int × Int := (IntKind.i64.wrap (0 - b), IntKind.i64.wrap (0 - a))
theorem rnegM_gives (a b : Int) : Gives Tryz.prog 126 [.agg ⟨[.int .i64 a, .int .i64 b]⟩] (pairV (rnegM a b).1 (rnegM a b).2) := ev6_gives Es_ok kR18_ok (by kernel_rfl) rfl
noncomputable def raddM (a b c d : Int) : Int × Int × Int := lt (rfitM (IntKind.i64.wrap (a + c)) (IntKind.i64.wrap (b + d))) fun x1 => (x1.1, x1.2.1, x1.2.2)
noncomputable def kR19 : Book := (126, eP (fun a b => pairV (rnegM a b).1 (rnegM a b).2)) :: kR18
theorem kR19_ok : BookOk Tryz.prog kR19 := (bookOk_cons (eP_ok rnegM_gives) kR18_ok)
theorem raddM_gives (a b c d : Int) : Gives Tryz.prog 140 [.agg ⟨[.int .i64 a, .int .i64 b]⟩, .agg ⟨[.int .i64 c, .int .i64 d]⟩] (arcV (raddM a b c d)) := ev6_gives Es_ok kR19_ok (by kernel_rfl) rfl
noncomputable def rsubM (a b c d : Int) : Int × Int × Int := lt (rfitM (IntKind.i64.wrap (a - d)) (IntKind.i64.wrap (b - c))) fun x1 => (x1.1, x1.2.1, x1.2.2)
noncomputable def kR110 : Book := (140, ePP (fun a b c d => arcV (raddM a b c d))) :: kR19
theorem kR110_ok : BookOk Tryz.prog kR110 := (bookOk_cons (ePP_ok raddM_gives) kR19_ok)
theorem rsubM_gives (a b c d : Int) : Gives Tryz.prog 141 [.agg ⟨[.int .i64 a, .int .i64 b]⟩, .agg ⟨[.int .i64 c, .int .i64 d]⟩] (arcV (rsubM a b c d)) := ev6_gives Es_ok kR110_ok (by kernel_rfl) rfl
noncomputable def rmulMK {α : Type} (K : Int → Int → Int → α) (a b c d : Int) : α := cond (decide ((Int.tmod (rlstM (rlstM (IntKind.i64.wrap (a * c)) (IntKind.i64.wrap (a * d))) (rlstM (IntKind.i64.wrap (b * c)) (IntKind.i64.wrap (b * d)))) 1073741824) < 0)) (cond (decide ((Int.tmod (IntKind.i64.wrap (0 - (rmstM (rmstM (IntKind.i64.wrap (a * c)) (IntKind.i64.wrap (a * d))) (rmstM (IntKind.i64.wrap (b * c)) (IntKind.i64.wrap (b * d)))))) 1073741824) < 0)) (lt (rfitM (IntKind.i64.wrap ((IntKind.i64.wrap (Int.tdiv (rlstM (rlstM (IntKind.i64.wrap (a * c)) (IntKind.i64.wrap (a * d))) (rlstM (IntKind.i64.wrap (b * c)) (IntKind.i64.wrap (b * d)))) 1073741824)) - 1)) (IntKind.i64.wrap (0 - (IntKind.i64.wrap ((IntKind.i64.wrap (Int.tdiv (IntKind.i64.wrap (0 - (rmstM (rmstM (IntKind.i64.wrap (a * c)) (IntKind.i64.wrap (a * d))) (rmstM (IntKind.i64.wrap (b * c)) (IntKind.i64.wrap (b * d)))))) 1073741824)) - 1))))) fun x1 => K x1.1 x1.2.1 x1.2.2) (lt (rfitM (IntKind.i64.wrap ((IntKind.i64.wrap (Int.tdiv (rlstM (rlstM (IntKind.i64.wrap (a * c)) (IntKind.i64.wrap (a * d))) (rlstM (IntKind.i64.wrap (b * c)) (IntKind.i64.wrap (b * d)))) 1073741824)) - 1)) (IntKind.i64.wrap (0 - (IntKind.i64.wrap (Int.tdiv (IntKind.i64.wrap (0 - (rmstM (rmstM (IntKind.i64.wrap (a * c)) (IntKind.i64.wrap (a * d))) (rmstM (IntKind.i64.wrap (b * c)) (IntKind.i64.wrap (b * d)))))) 1073741824))))) fun x2 => K x2.1 x2.2.1 x2.2.2)) (cond (decide ((Int.tmod (IntKind.i64.wrap (0 - (rmstM (rmstM (IntKind.i64.wrap (a * c)) (IntKind.i64.wrap (a * d))) (rmstM (IntKind.i64.wrap (b * c)) (IntKind.i64.wrap (b * d)))))) 1073741824) < 0)) (lt (rfitM (IntKind.i64.wrap (Int.tdiv (rlstM (rlstM (IntKind.i64.wrap (a * c)) (IntKind.i64.wrap (a * d))) (rlstM (IntKind.i64.wrap (b * c)) (IntKind.i64.wrap (b * d)))) 1073741824)) (IntKind.i64.wrap (0 - (IntKind.i64.wrap ((IntKind.i64.wrap (Int.tdiv (IntKind.i64.wrap (0 - (rmstM (rmstM (IntKind.i64.wrap (a * c)) (IntKind.i64.wrap (a * d))) (rmstM (IntKind.i64.wrap (b * c)) (IntKind.i64.wrap (b * d)))))) 1073741824)) - 1))))) fun x3 => K x3.1 x3.2.1 x3.2.2) (lt (rfitM (IntKind.i64.wrap (Int.tdiv (rlstM (rlstM (IntKind.i64.wrap (a * c)) (IntKind.i64.wrap (a * d))) (rlstM (IntKind.i64.wrap (b * c)) (IntKind.i64.wrap (b * d)))) 1073741824)) (IntKind.i64.wrap (0 - (IntKind.i64.wrap (Int.tdiv (IntKind.i64.wrap (0 - (rmstM (rmstM (IntKind.i64.wrap (a * c)) (IntKind.i64.wrap (a * d))) (rmstM (IntKind.i64.wrap (b * c)) (IntKind.i64.wrap (b * d)))))) 1073741824))))) fun x4 => K x4.1 x4.2.1 x4.2.2))
noncomputable def rmulM (a b c d : Int) : Int × Int × Int := rmulMK (fun p0 p1 p2 => (p0, p1, p2)) a b c d
noncomputable def kR111 : Book := (141, ePP (fun a b c d => arcV (rsubM a b c d))) :: kR110
theorem kR111_ok : BookOk Tryz.prog kR111 := (bookOk_cons (ePP_ok rsubM_gives) kR110_ok)
theorem rmulM_gives (a b c d : Int) : Gives Tryz.prog 127 [.agg ⟨[.int .i64 a, .int .i64 b]⟩, .agg ⟨[.int .i64 c, .int .i64 d]⟩] (arcV (rmulM a b c d)) := by
  refine ev6_gives Es_ok kR111_ok (t := rmulMK (fun p0 p1 p2 => some (.v (arcV ((p0, p1, p2))))) a b c d) (by kernel_rfl) ?_
  unfold rmulM rmulMK
  repeat' first | (with_reducible refine case_cond (fun r : Int × Int × Int => AV.v (arcV (r))) ?_ ?_) | (with_reducible refine case_lt (fun r : Int × Int × Int => AV.v (arcV (r))) fun _ => ?_) | rfl
noncomputable def kR112 : Book := (127, ePP (fun a b c d => arcV (rmulM a b c d))) :: kR111
theorem kR112_ok : BookOk Tryz.prog kR112 := (bookOk_cons (ePP_ok rmulM_gives) kR111_ok)
noncomputable def timesM (a b c d : Int) : Int × Int := lt (rmulM a b c d) fun x1 => (x1.1, x1.2.1)
theorem timesM_gives (a b c d : Int) : Gives Tryz.prog 105 [.agg ⟨[.int .i64 a, .int .i64 b]⟩, .agg ⟨[.int .i64 c, .int .i64 d]⟩] (pairV (timesM a b c d).1 (timesM a b c d).2) := ev6_gives Es_ok kR112_ok (by kernel_rfl) rfl
noncomputable def plusM (a b c d : Int) : Int × Int := lt (raddM a b c d) fun x1 => (x1.1, x1.2.1)
noncomputable def kR113 : Book := (105, ePP (fun a b c d => pairV (timesM a b c d).1 (timesM a b c d).2)) :: kR112
theorem kR113_ok : BookOk Tryz.prog kR113 := (bookOk_cons (ePP_ok timesM_gives) kR112_ok)
theorem plusM_gives (a b c d : Int) : Gives Tryz.prog 104 [.agg ⟨[.int .i64 a, .int .i64 b]⟩, .agg ⟨[.int .i64 c, .int .i64 d]⟩] (pairV (plusM a b c d).1 (plusM a b c d).2) := ev6_gives Es_ok kR113_ok (by kernel_rfl) rfl
noncomputable def minusM (a b c d : Int) : Int × Int := lt (rsubM a b c d) fun x1 => (x1.1, x1.2.1)
noncomputable def kR114 : Book := (104, ePP (fun a b c d => pairV (plusM a b c d).1 (plusM a b c d).2)) :: kR113
theorem kR114_ok : BookOk Tryz.prog kR114 := (bookOk_cons (ePP_ok plusM_gives) kR113_ok)
theorem minusM_gives (a b c d : Int) : Gives Tryz.prog 106 [.agg ⟨[.int .i64 a, .int .i64 b]⟩, .agg ⟨[.int .i64 c, .int .i64 d]⟩] (pairV (minusM a b c d).1 (minusM a b c d).2) := ev6_gives Es_ok kR114_ok (by kernel_rfl) rfl
noncomputable def rsneM (a b c d e f : Int) : Int × Int := lt (rsinM a b) fun x1 => lt (rsinM c d) fun x2 => lt (timesM x1.1 x1.2 x2.1 x2.2) fun x3 => lt (rcosM a b) fun x4 => lt (rcosM c d) fun x5 => lt (timesM x4.1 x4.2 x5.1 x5.2) fun x6 => lt (rcosM e f) fun x7 => lt (timesM x6.1 x6.2 x7.1 x7.2) fun x8 => lt (plusM x3.1 x3.2 x8.1 x8.2) fun x9 => (x9.1, x9.2)
noncomputable def kR115 : Book := (106, ePP (fun a b c d => pairV (minusM a b c d).1 (minusM a b c d).2)) :: kR114
theorem kR115_ok : BookOk Tryz.prog kR115 := (bookOk_cons (ePP_ok minusM_gives) kR114_ok)
theorem rsneM_gives (a b c d e f : Int) : Gives Tryz.prog 125 [.agg ⟨[.int .i64 a, .int .i64 b, .int .i64 c, .int .i64 d, .int .i64 e, .int .i64 f]⟩] (pairV (rsneM a b c d e f).1 (rsneM a b c d e f).2) := ev6_gives Es_ok kR115_ok (by kernel_rfl) rfl
noncomputable def raltM (a b c d e f : Int) : Int × Int := lt (rsneM a b c d e f) fun x1 => lt (asinR x1.1 x1.2) fun x2 => (x2.1, x2.2.1)
noncomputable def kR116 : Book := (125, eT (fun a b c d e f => pairV (rsneM a b c d e f).1 (rsneM a b c d e f).2)) :: kR115
theorem kR116_ok : BookOk Tryz.prog kR116 := (bookOk_cons (eT_ok rsneM_gives) kR115_ok)
theorem raltM_gives (a b c d e f : Int) : Gives Tryz.prog 96 [.agg ⟨[.int .i64 a, .int .i64 b, .int .i64 c, .int .i64 d, .int .i64 e, .int .i64 f]⟩] (pairV (raltM a b c d e f).1 (raltM a b c d e f).2) := ev6_gives Es_ok kR116_ok (by kernel_rfl) rfl
noncomputable def raziM (a b c d e f : Int) : Int × Int := lt (rcosM c d) fun x1 => lt (rsinM e f) fun x2 => lt (timesM x1.1 x1.2 x2.1 x2.2) fun x3 => lt (rnegM x3.1 x3.2) fun x4 => lt (rsinM c d) fun x5 => lt (rcosM a b) fun x6 => lt (timesM x5.1 x5.2 x6.1 x6.2) fun x7 => lt (rcosM c d) fun x8 => lt (rcosM e f) fun x9 => lt (timesM x8.1 x8.2 x9.1 x9.2) fun x10 => lt (rsinM a b) fun x11 => lt (timesM x10.1 x10.2 x11.1 x11.2) fun x12 => lt (minusM x7.1 x7.2 x12.1 x12.2) fun x13 => lt (bearR x4.1 x4.2 x13.1 x13.2) fun x14 => (x14.1, x14.2.1)
noncomputable def kR117 : Book := (96, eT (fun a b c d e f => pairV (raltM a b c d e f).1 (raltM a b c d e f).2)) :: kR116
theorem kR117_ok : BookOk Tryz.prog kR117 := (bookOk_cons (eT_ok raltM_gives) kR116_ok)
theorem raziM_gives (a b c d e f : Int) : Gives Tryz.prog 97 [.agg ⟨[.int .i64 a, .int .i64 b, .int .i64 c, .int .i64 d, .int .i64 e, .int .i64 f]⟩] (pairV (raziM a b c d e f).1 (raziM a b c d e f).2) := ev6_gives Es_ok kR117_ok (by kernel_rfl) rfl
noncomputable def raadM (a b c d : Int) : Int × Int := (IntKind.i64.wrap (a + c), IntKind.i64.wrap (b + d))
noncomputable def kR118 : Book := (97, eT (fun a b c d e f => pairV (raziM a b c d e f).1 (raziM a b c d e f).2)) :: kR117
theorem kR118_ok : BookOk Tryz.prog kR118 := (bookOk_cons (eT_ok raziM_gives) kR117_ok)
theorem raadM_gives (a b c d : Int) : Gives Tryz.prog 55 [.agg ⟨[.int .i64 a, .int .i64 b]⟩, .agg ⟨[.int .i64 c, .int .i64 d]⟩] (pairV (raadM a b c d).1 (raadM a b c d).2) := ev6_gives Es_ok kR118_ok (by kernel_rfl) rfl
noncomputable def rasubM (a b c d : Int) : Int × Int := (IntKind.i64.wrap (a - d), IntKind.i64.wrap (b - c))
noncomputable def kR119 : Book := (55, ePP (fun a b c d => pairV (raadM a b c d).1 (raadM a b c d).2)) :: kR118
theorem kR119_ok : BookOk Tryz.prog kR119 := (bookOk_cons (ePP_ok raadM_gives) kR118_ok)
theorem rasubM_gives (a b c d : Int) : Gives Tryz.prog 54 [.agg ⟨[.int .i64 a, .int .i64 b]⟩, .agg ⟨[.int .i64 c, .int .i64 d]⟩] (pairV (rasubM a b c d).1 (rasubM a b c d).2) := ev6_gives Es_ok kR119_ok (by kernel_rfl) rfl
noncomputable def rvalM (a b : Int) : Bool := cond (decide (a ≤ b)) (cond (decide (a ≥ (-1099511627776))) ((decide (b ≤ 1099511627776))) (false)) (false)
noncomputable def kR120 : Book := (54, ePP (fun a b c d => pairV (rasubM a b c d).1 (rasubM a b c d).2)) :: kR119
theorem kR120_ok : BookOk Tryz.prog kR120 := (bookOk_cons (ePP_ok rasubM_gives) kR119_ok)
theorem rvalM_gives (a b : Int) : Gives Tryz.prog 7 [.agg ⟨[.int .i64 a, .int .i64 b]⟩] (.bool (rvalM a b)) := by
  refine ev6_gives Es_ok kR120_ok (t := cond (decide (a ≤ b)) (cond (decide (a ≥ (-1099511627776))) (some (.v (.bool (decide (b ≤ 1099511627776))))) (some (.v (.bool false)))) (some (.v (.bool false)))) (by kernel_rfl) ?_
  unfold rvalM
  repeat' first | (with_reducible refine case_cond (fun r : Bool => AV.v (.bool (r))) ?_ ?_) | (with_reducible refine case_lt (fun r : Bool => AV.v (.bool (r))) fun _ => ?_) | rfl
noncomputable def rcvM (a b c d e f : Int) : Bool := cond (decide (a ≥ (-5400000))) (cond (decide (a ≤ b)) (cond (decide (b ≤ 5400000)) (cond ((c == (-10800000)) && ((d == 10800000) && true)) (cond (decide (e ≥ 0)) (cond (decide (e ≤ f)) ((decide (f ≤ 10800000))) (false)) (false)) (cond (decide (c ≥ (-10800000))) (cond (decide (c < 10800000)) (cond (decide (c ≤ d)) (cond (decide (d < IntKind.i64.wrap (c + 21600000))) (cond (decide (e ≥ 0)) (cond (decide (e ≤ f)) ((decide (f ≤ 10800000))) (false)) (false)) (false)) (false)) (false)) (false))) (false)) (false)) (false)
theorem rcvM_gives (a b c d e f : Int) : Gives Tryz.prog 6 [.agg ⟨[.int .i64 a, .int .i64 b, .int .i64 c, .int .i64 d, .int .i64 e, .int .i64 f]⟩] (.bool (rcvM a b c d e f)) := by
  refine ev6_gives Es_ok kR120_ok (t := cond (decide (a ≥ (-5400000))) (cond (decide (a ≤ b)) (cond (decide (b ≤ 5400000)) (cond ((c == (-10800000)) && ((d == 10800000) && true)) (cond (decide (e ≥ 0)) (cond (decide (e ≤ f)) (some (.v (.bool (decide (f ≤ 10800000))))) (some (.v (.bool false)))) (some (.v (.bool false)))) (cond (decide (c ≥ (-10800000))) (cond (decide (c < 10800000)) (cond (decide (c ≤ d)) (cond (decide (d < IntKind.i64.wrap (c + 21600000))) (cond (decide (e ≥ 0)) (cond (decide (e ≤ f)) (some (.v (.bool (decide (f ≤ 10800000))))) (some (.v (.bool false)))) (some (.v (.bool false)))) (some (.v (.bool false)))) (some (.v (.bool false)))) (some (.v (.bool false)))) (some (.v (.bool false))))) (some (.v (.bool false)))) (some (.v (.bool false)))) (some (.v (.bool false)))) (by kernel_rfl) ?_
  unfold rcvM
  repeat' first | (with_reducible refine case_cond (fun r : Bool => AV.v (.bool (r))) ?_ ?_) | (with_reducible refine case_lt (fun r : Bool => AV.v (.bool (r))) fun _ => ?_) | rfl
end Go.Proofs.YtfilgpifiboccaaGreat
