/-
  The direction of an angle is the angle: what ArctrigDirections answers, read off by the machine. ArctrigDirections answers true.
-/
import Derived.Test.YtmlmohcghoelkaaEv
import Derived.Test.YtmlmohcghoelkaaT53
import Derived.Test.YtmlmohcghoelkaaT64
import Derived.Test.YtmlmohcghoelkaaT75
import Derived.KernelRfl
import Derived.Test.YtmlmohcghoelkaaT37
namespace Go.Proofs.Ytmlmohcghoelkaa
open Ev
theorem mixed : Try.prog.follows .mixedOrders = true := by kernel_rfl
def Cs : List FuncId := [3, 4, 5, 6, 7, 8, 9, 10, 11, 12, 13, 14, 15, 16, 17, 18, 19, 20, 21, 22, 23, 24, 25, 26, 27, 28, 29, 30, 31, 32, 33, 34, 35, 36, 37, 38, 39, 40, 41, 42, 43, 44, 45, 46, 47, 48, 49, 50, 51, 52, 53, 54, 55, 56, 57, 58, 59, 60, 61, 62, 63, 64, 65, 66, 67, 68, 69, 70, 71, 72, 73, 74, 75, 76, 77, 78, 79, 80, 81, 82, 83, 85, 86, 87, 88, 90, 91, 92, 93, 94, 95, 96, 97, 98, 99, 100, 101, 102, 103, 104, 105, 106, 107, 108]
theorem Cs_ok : ∀ g ∈ Cs, Callable Try.prog g := by
  intro g hg
  simp only [Cs, List.mem_cons, List.not_mem_nil, or_false] at hg
  rcases hg with rfl | rfl | rfl | rfl | rfl | rfl | rfl | rfl | rfl | rfl | rfl | rfl | rfl | rfl | rfl | rfl | rfl | rfl | rfl | rfl | rfl | rfl | rfl | rfl | rfl | rfl | rfl | rfl | rfl | rfl | rfl | rfl | rfl | rfl | rfl | rfl | rfl | rfl | rfl | rfl | rfl | rfl | rfl | rfl | rfl | rfl | rfl | rfl | rfl | rfl | rfl | rfl | rfl | rfl | rfl | rfl | rfl | rfl | rfl | rfl | rfl | rfl | rfl | rfl | rfl | rfl | rfl | rfl | rfl | rfl | rfl | rfl | rfl | rfl | rfl | rfl | rfl | rfl | rfl | rfl | rfl | rfl | rfl | rfl | rfl | rfl | rfl | rfl | rfl | rfl | rfl | rfl | rfl | rfl | rfl | rfl | rfl | rfl | rfl | rfl | rfl | rfl | rfl | rfl
  · exact callable_of Try.func3 (by kernel_rfl) rfl
  · exact callable_of Try.func4 (by kernel_rfl) rfl
  · exact callable_of Try.func5 (by kernel_rfl) rfl
  · exact callable_of Try.func6 (by kernel_rfl) rfl
  · exact callable_of Try.func7 (by kernel_rfl) rfl
  · exact callable_of Try.func8 (by kernel_rfl) rfl
  · exact callable_of Try.func9 (by kernel_rfl) rfl
  · exact callable_of Try.func10 (by kernel_rfl) rfl
  · exact callable_of Try.func11 (by kernel_rfl) rfl
  · exact callable_of Try.func12 (by kernel_rfl) rfl
  · exact callable_of Try.func13 (by kernel_rfl) rfl
  · exact callable_of Try.func14 (by kernel_rfl) rfl
  · exact callable_of Try.func15 (by kernel_rfl) rfl
  · exact callable_of Try.func16 (by kernel_rfl) rfl
  · exact callable_of Try.func17 (by kernel_rfl) rfl
  · exact callable_of Try.func18 (by kernel_rfl) rfl
  · exact callable_of Try.func19 (by kernel_rfl) rfl
  · exact callable_of Try.func20 (by kernel_rfl) rfl
  · exact callable_of Try.func21 (by kernel_rfl) rfl
  · exact callable_of Try.func22 (by kernel_rfl) rfl
  · exact callable_of Try.func23 (by kernel_rfl) rfl
  · exact callable_of Try.func24 (by kernel_rfl) rfl
  · exact callable_of Try.func25 (by kernel_rfl) rfl
  · exact callable_of Try.func26 (by kernel_rfl) rfl
  · exact callable_of Try.func27 (by kernel_rfl) rfl
  · exact callable_of Try.func28 (by kernel_rfl) rfl
  · exact callable_of Try.func29 (by kernel_rfl) rfl
  · exact callable_of Try.func30 (by kernel_rfl) rfl
  · exact callable_of Try.func31 (by kernel_rfl) rfl
  · exact callable_of Try.func32 (by kernel_rfl) rfl
  · exact callable_of Try.func33 (by kernel_rfl) rfl
  · exact callable_of Try.func34 (by kernel_rfl) rfl
  · exact callable_of Try.func35 (by kernel_rfl) rfl
  · exact callable_of Try.func36 (by kernel_rfl) rfl
  · exact callable_of Try.func37 (by kernel_rfl) rfl
  · exact callable_of Try.func38 (by kernel_rfl) rfl
  · exact callable_of Try.func39 (by kernel_rfl) rfl
  · exact callable_of Try.func40 (by kernel_rfl) rfl
  · exact callable_of Try.func41 (by kernel_rfl) rfl
  · exact callable_of Try.func42 (by kernel_rfl) rfl
  · exact callable_of Try.func43 (by kernel_rfl) rfl
  · exact callable_of Try.func44 (by kernel_rfl) rfl
  · exact callable_of Try.func45 (by kernel_rfl) rfl
  · exact callable_of Try.func46 (by kernel_rfl) rfl
  · exact callable_of Try.func47 (by kernel_rfl) rfl
  · exact callable_of Try.func48 (by kernel_rfl) rfl
  · exact callable_of Try.func49 (by kernel_rfl) rfl
  · exact callable_of Try.func50 (by kernel_rfl) rfl
  · exact callable_of Try.func51 (by kernel_rfl) rfl
  · exact callable_of Try.func52 (by kernel_rfl) rfl
  · exact callable_of Try.func53 (by kernel_rfl) rfl
  · exact callable_of Try.func54 (by kernel_rfl) rfl
  · exact callable_of Try.func55 (by kernel_rfl) rfl
  · exact callable_of Try.func56 (by kernel_rfl) rfl
  · exact callable_of Try.func57 (by kernel_rfl) rfl
  · exact callable_of Try.func58 (by kernel_rfl) rfl
  · exact callable_of Try.func59 (by kernel_rfl) rfl
  · exact callable_of Try.func60 (by kernel_rfl) rfl
  · exact callable_of Try.func61 (by kernel_rfl) rfl
  · exact callable_of Try.func62 (by kernel_rfl) rfl
  · exact callable_of Try.func63 (by kernel_rfl) rfl
  · exact callable_of Try.func64 (by kernel_rfl) rfl
  · exact callable_of Try.func65 (by kernel_rfl) rfl
  · exact callable_of Try.func66 (by kernel_rfl) rfl
  · exact callable_of Try.func67 (by kernel_rfl) rfl
  · exact callable_of Try.func68 (by kernel_rfl) rfl
  · exact callable_of Try.func69 (by kernel_rfl) rfl
  · exact callable_of Try.func70 (by kernel_rfl) rfl
  · exact callable_of Try.func71 (by kernel_rfl) rfl
  · exact callable_of Try.func72 (by kernel_rfl) rfl
  · exact callable_of Try.func73 (by kernel_rfl) rfl
  · exact callable_of Try.func74 (by kernel_rfl) rfl
  · exact callable_of Try.func75 (by kernel_rfl) rfl
  · exact callable_of Try.func76 (by kernel_rfl) rfl
  · exact callable_of Try.func77 (by kernel_rfl) rfl
  · exact callable_of Try.func78 (by kernel_rfl) rfl
  · exact callable_of Try.func79 (by kernel_rfl) rfl
  · exact callable_of Try.func80 (by kernel_rfl) rfl
  · exact callable_of Try.func81 (by kernel_rfl) rfl
  · exact callable_of Try.func82 (by kernel_rfl) rfl
  · exact callable_of Try.func83 (by kernel_rfl) rfl
  · exact callable_of Try.func85 (by kernel_rfl) rfl
  · exact callable_of Try.func86 (by kernel_rfl) rfl
  · exact callable_of Try.func87 (by kernel_rfl) rfl
  · exact callable_of Try.func88 (by kernel_rfl) rfl
  · exact callable_of Try.func90 (by kernel_rfl) rfl
  · exact callable_of Try.func91 (by kernel_rfl) rfl
  · exact callable_of Try.func92 (by kernel_rfl) rfl
  · exact callable_of Try.func93 (by kernel_rfl) rfl
  · exact callable_of Try.func94 (by kernel_rfl) rfl
  · exact callable_of Try.func95 (by kernel_rfl) rfl
  · exact callable_of Try.func96 (by kernel_rfl) rfl
  · exact callable_of Try.func97 (by kernel_rfl) rfl
  · exact callable_of Try.func98 (by kernel_rfl) rfl
  · exact callable_of Try.func99 (by kernel_rfl) rfl
  · exact callable_of Try.func100 (by kernel_rfl) rfl
  · exact callable_of Try.func101 (by kernel_rfl) rfl
  · exact callable_of Try.func102 (by kernel_rfl) rfl
  · exact callable_of Try.func103 (by kernel_rfl) rfl
  · exact callable_of Try.func104 (by kernel_rfl) rfl
  · exact callable_of Try.func105 (by kernel_rfl) rfl
  · exact callable_of Try.func106 (by kernel_rfl) rfl
  · exact callable_of Try.func107 (by kernel_rfl) rfl
  · exact callable_of Try.func108 (by kernel_rfl) rfl
def book1 : Book := [(44, eP fun a b => .bool (avalidB a b)), (45, eI fun n => .int .i64 (n % 21600000))]
theorem book1_ok : BookOk Try.prog book1 := bookOk_cons (eP_ok fun a b => gvalid_any a b) (bookOk_cons (eI_ok fun n => wrap_any n) bookOk_nil)
/-- Do two arcs share a direction? -/
def agreeR (a b c d : Int) : Bool × Int :=
  if avalidB a b = false ∨ avalidB c d = false then (false, 1) else (decide ((c - a) % 21600000 ≤ b - a ∨ (a - c) % 21600000 ≤ d - c), 0)
theorem agree_tree (a b c d : Int) : evF Try.prog [] Cs book1 20 3 31 ([Value.agg ⟨[.int .i64 a, .int .i64 b]⟩, .agg ⟨[.int .i64 c, .int .i64 d]⟩].map AV.v) [] [] last =
  cond (!(avalidB a b))
  (some (.v (.tuple ⟨[.bool false, .int .i64 1]⟩)))
  (cond (!(avalidB c d))
   (some (.v (.tuple ⟨[.bool false, .int .i64 1]⟩)))
   (cond (decide (((IntKind.i64.wrap (c - a)) % 21600000) ≤ IntKind.i64.wrap (b - a)))
    (some (.v (.tuple ⟨[.bool true, .int .i64 0]⟩)))
    (some (.v (.tuple ⟨[.bool (decide (((IntKind.i64.wrap (a - c)) % 21600000) ≤ IntKind.i64.wrap (d - c))), .int .i64 0]⟩))))) := by kernel_rfl
theorem i64w {x : Int} (h : -9223372036854775808 ≤ x ∧ x ≤ 9223372036854775807) : IntKind.i64.wrap x = x := IntWalk.i64_in _ h
theorem agree_gives (a b c d : Int) : Gives Try.prog 31 [.agg ⟨[.int .i64 a, .int .i64 b]⟩, .agg ⟨[.int .i64 c, .int .i64 d]⟩] (.tuple ⟨[.bool (agreeR a b c d).1, .int .i64 (agreeR a b c d).2]⟩) := by
  refine evF_gives (E := []) mixed (by simp) Cs_ok book1_ok (lim := 20) (d := 3) (nm := []) ?_
  rw [agree_tree]
  unfold agreeR
  cases h1 : avalidB a b
  · simp
  · cases h2 : avalidB c d
    · simp
    · have h3 : -1099511627776 ≤ a ∧ a ≤ b ∧ b ≤ 1099511627776 := by simpa [avalidB] using h1
      have h4 : -1099511627776 ≤ c ∧ c ≤ d ∧ d ≤ 1099511627776 := by simpa [avalidB] using h2
      rw [i64w (x := c - a) (by omega), i64w (x := b - a) (by omega), i64w (x := a - c) (by omega), i64w (x := d - c) (by omega)]
      by_cases h5 : (c - a) % 21600000 ≤ b - a
      · simp [h5]
      · simp [h5]
end Go.Proofs.Ytmlmohcghoelkaa
namespace Go.Proofs.Ytmlmohcghoelkaa
open Ev
def tag2 (r : Bool × Int) : Value := .tuple ⟨[.bool r.1, .int .i64 r.2]⟩
def book2 : Book := [(11, e0 (.bool true)), (28, eP fun a b => arcV (sinR a b)), (29, eP fun a b => arcV (cosR a b)), (18, ePP fun a b c d => arcV (bearR a b c d)), (31, ePP fun a b c d => tag2 (agreeR a b c d))]
theorem book2_ok : BookOk Try.prog book2 := bookOk_cons (e0_ok awake_any) (bookOk_cons (eP_ok sin_r) (bookOk_cons (eP_ok cos_r) (bookOk_cons (ePP_ok bear_any) (bookOk_cons (ePP_ok agree_gives) bookOk_nil))))
theorem dir_tree (n : Int) : evF Try.prog [] Cs book2 20 6 10 ([Value.int .i64 n].map AV.v) [] [] last =
  cond (!(true))
  (some (.v (.bool false)))
  (cond (decide (n < (-1099511627776)))
   (some (.v (.bool true)))
   (cond (decide (n > 1099511627776))
    (some (.v (.bool true)))
    (lt (sinR n n) fun x1 =>
     lt (cosR n n) fun x2 =>
     lt (bearR x1.1 x1.2.1 x2.1 x2.2.1) fun x3 =>
     cond (x1.2.2 != 0)
     (some (.v (.bool false)))
     (cond (x2.2.2 != 0)
      (some (.v (.bool false)))
      (cond (x3.2.2 != 0)
       (some (.v (.bool false)))
       (lt (agreeR x3.1 x3.2.1 n n) fun x4 =>
        cond (x4.2 == 0)
        (cond x4.1
         (some (.v (.bool (decide (IntKind.i64.wrap (x3.2.1 - x3.1) ≤ 3)))))
         (some (.v (.bool false))))
        (some (.v (.bool false))))))))) := by kernel_rfl
theorem dir_any (n : Int) : Gives Try.prog 10 [.int .i64 n] (.bool true) := by
  refine evF_gives (E := []) mixed (by simp) Cs_ok book2_ok (lim := 20) (d := 6) (nm := []) ?_
  rw [dir_tree]
  by_cases h0 : n < -1099511627776
  · simp [h0]
  by_cases h1 : n > 1099511627776
  · simp [h1]
  obtain ⟨s, t, c, d, p, q, e1, e2, e3, h2, h3, h4, h5, h6⟩ := dir_plain n (by omega) (by omega)
  simp only [lt, e1, e2, e3]
  have e4 : agreeR p q n n = (true, 0) := by
    unfold agreeR
    rw [avalid_yes (by omega) (by omega) (by omega), avalid_yes (by omega) (by omega) (by omega)]
    simp
    exact .inl h6
  rw [e4, i64w (by omega)]
  have e5 : q - p ≤ 3 := by omega
  simp [e5]
end Go.Proofs.Ytmlmohcghoelkaa
