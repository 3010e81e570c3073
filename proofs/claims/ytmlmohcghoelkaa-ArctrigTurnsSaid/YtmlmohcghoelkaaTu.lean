/-
  ArctrigTurns answers true: directions are turned, mirrored, and stretched with their box.
-/
import Derived.Test.YtmlmohcghoelkaaEv
import Derived.Test.YtmlmohcghoelkaaNe
import Derived.Test.YtmlmohcghoelkaaT37
import Derived.KernelRfl
import Derived.IntWalk
namespace Go.Proofs.Ytmlmohcghoelkaa
open Ev
def Cs : List FuncId := [2, 3, 4, 5, 6, 7, 8, 9, 10, 11, 12, 13, 14, 15, 16, 17, 18, 19, 20, 21, 22, 23, 24, 25, 26, 27, 28, 29, 30, 31, 32, 33, 34, 35, 36, 37, 38, 39, 40, 41, 42, 43, 44, 45, 46, 47, 48, 49, 50, 51, 52, 53, 54, 55, 56, 57, 58, 59, 60, 61, 62, 63, 64, 65, 66, 67, 68, 69, 70, 71, 72, 73, 74, 75, 76, 77, 78, 79, 80, 81, 82, 83, 85, 86, 87, 88, 90, 91, 92, 93, 94, 95, 96, 97, 98, 99, 100, 101, 102, 103, 104, 105, 106, 107, 108]
theorem Cs_ok : ∀ g ∈ Cs, Callable Try.prog g := by
  intro g hg
  simp only [Cs, List.mem_cons, List.not_mem_nil, or_false] at hg
  rcases hg with rfl | rfl | rfl | rfl | rfl | rfl | rfl | rfl | rfl | rfl | rfl | rfl | rfl | rfl | rfl | rfl | rfl | rfl | rfl | rfl | rfl | rfl | rfl | rfl | rfl | rfl | rfl | rfl | rfl | rfl | rfl | rfl | rfl | rfl | rfl | rfl | rfl | rfl | rfl | rfl | rfl | rfl | rfl | rfl | rfl | rfl | rfl | rfl | rfl | rfl | rfl | rfl | rfl | rfl | rfl | rfl | rfl | rfl | rfl | rfl | rfl | rfl | rfl | rfl | rfl | rfl | rfl | rfl | rfl | rfl | rfl | rfl | rfl | rfl | rfl | rfl | rfl | rfl | rfl | rfl | rfl | rfl | rfl | rfl | rfl | rfl | rfl | rfl | rfl | rfl | rfl | rfl | rfl | rfl | rfl | rfl | rfl | rfl | rfl | rfl | rfl | rfl | rfl | rfl | rfl
  · exact callable_of Try.func2 (by kernel_rfl) rfl
  · exact callable_of Try.func3 (by kernel_rfl) rfl
  · exact callable_of Try.func4 (by kernel_rfl) rfl
  · exact callable_of Try.func5 (by kernel_rfl) rfl
  · exact callable_of Try.func6 (by kernel_rfl) rfl
  · exact callable_of Try.func7 (by kernel_rfl) rfl
  · exact callable_of Try.func8 (by kernel_rfl) rfl
  · exact callable_of Try.func9 (by kernel_rfl) rfl
  · exact callable_of Try.func10 (by kernel_rfl) rfl
  · exact callable_of Try.func11 (by kernel_rfl) rfl
  · exact callable_of Try.func12 (by kernel_rfl) rfl
  · exact callable_of Try.func13 (by kernel_rfl) rfl
  · exact callable_of Try.func14 (by kernel_rfl) rfl
  · exact callable_of Try.func15 (by kernel_rfl) rfl
  · exact callable_of Try.func16 (by kernel_rfl) rfl
  · exact callable_of Try.func17 (by kernel_rfl) rfl
  · exact callable_of Try.func18 (by kernel_rfl) rfl
  · exact callable_of Try.func19 (by kernel_rfl) rfl
  · exact callable_of Try.func20 (by kernel_rfl) rfl
  · exact callable_of Try.func21 (by kernel_rfl) rfl
  · exact callable_of Try.func22 (by kernel_rfl) rfl
  · exact callable_of Try.func23 (by kernel_rfl) rfl
  · exact callable_of Try.func24 (by kernel_rfl) rfl
  · exact callable_of Try.func25 (by kernel_rfl) rfl
  · exact callable_of Try.func26 (by kernel_rfl) rfl
  · exact callable_of Try.func27 (by kernel_rfl) rfl
  · exact callable_of Try.func28 (by kernel_rfl) rfl
  · exact callable_of Try.func29 (by kernel_rfl) rfl
  · exact callable_of Try.func30 (by kernel_rfl) rfl
  · exact callable_of Try.func31 (by kernel_rfl) rfl
  · exact callable_of Try.func32 (by kernel_rfl) rfl
  · exact callable_of Try.func33 (by kernel_rfl) rfl
  · exact callable_of Try.func34 (by kernel_rfl) rfl
  · exact callable_of Try.func35 (by kernel_rfl) rfl
  · exact callable_of Try.func36 (by kernel_rfl) rfl
  · exact callable_of Try.func37 (by kernel_rfl) rfl
  · exact callable_of Try.func38 (by kernel_rfl) rfl
  · exact callable_of Try.func39 (by kernel_rfl) rfl
  · exact callable_of Try.func40 (by kernel_rfl) rfl
  · exact callable_of Try.func41 (by kernel_rfl) rfl
  · exact callable_of Try.func42 (by kernel_rfl) rfl
  · exact callable_of Try.func43 (by kernel_rfl) rfl
  · exact callable_of Try.func44 (by kernel_rfl) rfl
  · exact callable_of Try.func45 (by kernel_rfl) rfl
  · exact callable_of Try.func46 (by kernel_rfl) rfl
  · exact callable_of Try.func47 (by kernel_rfl) rfl
  · exact callable_of Try.func48 (by kernel_rfl) rfl
  · exact callable_of Try.func49 (by kernel_rfl) rfl
  · exact callable_of Try.func50 (by kernel_rfl) rfl
  · exact callable_of Try.func51 (by kernel_rfl) rfl
  · exact callable_of Try.func52 (by kernel_rfl) rfl
  · exact callable_of Try.func53 (by kernel_rfl) rfl
  · exact callable_of Try.func54 (by kernel_rfl) rfl
  · exact callable_of Try.func55 (by kernel_rfl) rfl
  · exact callable_of Try.func56 (by kernel_rfl) rfl
  · exact callable_of Try.func57 (by kernel_rfl) rfl
  · exact callable_of Try.func58 (by kernel_rfl) rfl
  · exact callable_of Try.func59 (by kernel_rfl) rfl
  · exact callable_of Try.func60 (by kernel_rfl) rfl
  · exact callable_of Try.func61 (by kernel_rfl) rfl
  · exact callable_of Try.func62 (by kernel_rfl) rfl
  · exact callable_of Try.func63 (by kernel_rfl) rfl
  · exact callable_of Try.func64 (by kernel_rfl) rfl
  · exact callable_of Try.func65 (by kernel_rfl) rfl
  · exact callable_of Try.func66 (by kernel_rfl) rfl
  · exact callable_of Try.func67 (by kernel_rfl) rfl
  · exact callable_of Try.func68 (by kernel_rfl) rfl
  · exact callable_of Try.func69 (by kernel_rfl) rfl
  · exact callable_of Try.func70 (by kernel_rfl) rfl
  · exact callable_of Try.func71 (by kernel_rfl) rfl
  · exact callable_of Try.func72 (by kernel_rfl) rfl
  · exact callable_of Try.func73 (by kernel_rfl) rfl
  · exact callable_of Try.func74 (by kernel_rfl) rfl
  · exact callable_of Try.func75 (by kernel_rfl) rfl
  · exact callable_of Try.func76 (by kernel_rfl) rfl
  · exact callable_of Try.func77 (by kernel_rfl) rfl
  · exact callable_of Try.func78 (by kernel_rfl) rfl
  · exact callable_of Try.func79 (by kernel_rfl) rfl
  · exact callable_of Try.func80 (by kernel_rfl) rfl
  · exact callable_of Try.func81 (by kernel_rfl) rfl
  · exact callable_of Try.func82 (by kernel_rfl) rfl
  · exact callable_of Try.func83 (by kernel_rfl) rfl
  · exact callable_of Try.func85 (by kernel_rfl) rfl
  · exact callable_of Try.func86 (by kernel_rfl) rfl
  · exact callable_of Try.func87 (by kernel_rfl) rfl
  · exact callable_of Try.func88 (by kernel_rfl) rfl
  · exact callable_of Try.func90 (by kernel_rfl) rfl
  · exact callable_of Try.func91 (by kernel_rfl) rfl
  · exact callable_of Try.func92 (by kernel_rfl) rfl
  · exact callable_of Try.func93 (by kernel_rfl) rfl
  · exact callable_of Try.func94 (by kernel_rfl) rfl
  · exact callable_of Try.func95 (by kernel_rfl) rfl
  · exact callable_of Try.func96 (by kernel_rfl) rfl
  · exact callable_of Try.func97 (by kernel_rfl) rfl
  · exact callable_of Try.func98 (by kernel_rfl) rfl
  · exact callable_of Try.func99 (by kernel_rfl) rfl
  · exact callable_of Try.func100 (by kernel_rfl) rfl
  · exact callable_of Try.func101 (by kernel_rfl) rfl
  · exact callable_of Try.func102 (by kernel_rfl) rfl
  · exact callable_of Try.func103 (by kernel_rfl) rfl
  · exact callable_of Try.func104 (by kernel_rfl) rfl
  · exact callable_of Try.func105 (by kernel_rfl) rfl
  · exact callable_of Try.func106 (by kernel_rfl) rfl
  · exact callable_of Try.func107 (by kernel_rfl) rfl
  · exact callable_of Try.func108 (by kernel_rfl) rfl
theorem mixed : Try.prog.follows .mixedOrders = true := by kernel_rfl
theorem i64w {x : Int} (h : -9223372036854775808 ≤ x ∧ x ≤ 9223372036854775807) : IntKind.i64.wrap x = x := IntWalk.i64_in _ h
theorem eqInts_inv {x y : Value} {xs ys : List Value} {r : Bool} (h : eqInts (x :: xs) (y :: ys) = some r) : ∃ a b r', x = .int .i64 a ∧ y = .int .i64 b ∧ eqInts xs ys = some r' ∧ r = ((a == b) && r') := by
  unfold eqInts at h
  split at h
  · rename_i he1 he2; cases he1
  · rename_i a l b m he1 he2
    cases he1
    cases he2
    split at h
    · rename_i r' hr
      simp only [Option.some.injEq] at h
      exact ⟨a, b, r', rfl, rfl, hr, h.symm⟩
    · cases h
  · cases h
theorem eqInts_nil : eqInts [] [] = some true := rfl
theorem eqArcAt (k : Nat) (a b c d : Int) (w : World) : (Op.equalIn (k + 2) 25 (.agg #[.int .i64 a, .int .i64 b]) (.agg #[.int .i64 c, .int .i64 d])).run Try.prog w = .ok (a == c && b == d) w := by
  have u3 := Try.underlying3
  have a3 := Try.isAgg3
  have z3 := Try.sizeOf3
  have hS : Try.prog.underlying 25 = some (.struct (Try.prog.fieldsOf 25)) := by kernel_rfl
  have hp : Try.prog.stoodInHeld 25 = false := by kernel_rfl
  rw [run_equalIn_agg w (k + 1) 25 _ _ hS hp]
  simp only [Program.fieldsOf, Try.underlying25]
  go_simp
  by_cases h1 : a = c <;> by_cases h2 : b = d <;> simp [h1, h2]
theorem fitArc : EqFit Try.prog (25, 2) := by
  refine ⟨by kernel_rfl, fun xs ys r hx hy h w => ?_⟩
  match xs, ys, hx, hy with
  | [x0, x1], [y0, y1], _, _ =>
    obtain ⟨a, c, r1, rfl, rfl, h1, rfl⟩ := eqInts_inv h
    obtain ⟨b, d, r2, rfl, rfl, h2, rfl⟩ := eqInts_inv h1
    rw [eqInts_nil] at h2
    cases h2
    rw [Bool.and_true]
    exact eqArcAt 9998 a b c d w
def Es : List (TypeId × Nat) := [(25, 2)]
theorem Es_ok : ∀ e ∈ Es, EqFit Try.prog e := by
  intro e he
  simp only [Es, List.mem_cons, List.not_mem_nil, or_false] at he
  rcases he with rfl
  exact fitArc
def trueB : Bool := true
def wrapN (n : Int) : Int := n % 21600000
theorem aval_bd {a b : Int} (h : avalidB a b = true) : -1099511627776 ≤ a ∧ a ≤ b ∧ b ≤ 1099511627776 := by simpa [avalidB] using h
def turnR (a b : Int) : Int × Int × Int := if avalidB a b = true then (turnL a b, turnH a b, 0) else (0, 0, 1)
noncomputable def book_turnR_gives : Book := [(44, eP (fun a b => .bool (avalidB a b))), (45, eI (fun a => .int .i64 (wrapN a)))]
theorem book_turnR_gives_ok : BookOk Try.prog book_turnR_gives := (bookOk_cons (eP_ok gvalid_any) (bookOk_cons (eI_ok wrap_any) bookOk_nil))
theorem turnR_gives_tree (a b : Int) : evF Try.prog Es Cs book_turnR_gives 20 6 26 ([.agg ⟨[.int .i64 a, .int .i64 b]⟩].map AV.v) [] [] last =
  cond (!(avalidB a b))
  (some (.v (.tuple ⟨[.agg ⟨[.int .i64 0, .int .i64 0]⟩, .int .i64 1]⟩)))
  (cond (decide (IntKind.i64.wrap (b - a) ≥ 21600000))
   (some (.v (.tuple ⟨[.agg ⟨[.int .i64 0, .int .i64 21600000]⟩, .int .i64 0]⟩)))
   (some (.v (.tuple ⟨[.agg ⟨[.int .i64 (wrapN a), .int .i64 (IntKind.i64.wrap ((wrapN a) + (IntKind.i64.wrap (b - a))))]⟩, .int .i64 0]⟩)))) := by kernel_rfl
theorem turnR_gives (a b : Int) : Gives Try.prog 26 [.agg ⟨[.int .i64 a, .int .i64 b]⟩] (arcV (turnR a b)) := by
  refine evF_gives (E := Es) mixed Es_ok Cs_ok book_turnR_gives_ok (lim := 20) (d := 6) (nm := []) ?_
  rw [turnR_gives_tree a b]
  unfold turnR
  cases h : avalidB a b
  · rfl
  · have := aval_bd h
    unfold wrapN
    rw [i64w (x := b - a) (by omega), i64w (x := a % 21600000 + (b - a)) (by omega)]
    unfold turnL turnH
    by_cases h1 : 21600000 ≤ b - a
    · have e : decide (b - a ≥ 21600000) = true := decide_eq_true h1
      rw [e]
      simp [h1, arcV, pairV]
    · have e : decide (b - a ≥ 21600000) = false := decide_eq_false h1
      rw [e]
      simp [h1, arcV, pairV]
noncomputable def book_tu : Book := [(11, e0 (.bool (trueB))), (18, ePP (fun a b c d => arcV (bearR a b c d))), (26, eP (fun a b => arcV (turnR a b)))]
theorem book_tu_ok : BookOk Try.prog book_tu := (bookOk_cons (e0_ok awake_any) (bookOk_cons (ePP_ok bear_any) (bookOk_cons (eP_ok turnR_gives) bookOk_nil)))
theorem tu_tree (a b c d e : Int) : evF Try.prog Es Cs book_tu 20 6 8 ([.agg ⟨[.int .i64 a, .int .i64 b]⟩, .agg ⟨[.int .i64 c, .int .i64 d]⟩, .int .u8 e].map AV.v) [] [] last =
  cond (!(trueB))
  (some (.v (.bool false)))
  (cond (decide (a ≤ b))
   (cond (decide (a ≥ (-2147483648)))
    (cond (!(decide (b ≤ 2147483648)))
     (some (.v (.bool true)))
     (cond (decide (c ≤ d))
      (cond (decide (c ≥ (-2147483648)))
       (cond (!(decide (d ≤ 2147483648)))
        (some (.v (.bool true)))
        (lt (bearR a b c d) fun x1 =>
         lt (bearR c d (IntKind.i64.wrap (0 - b)) (IntKind.i64.wrap (0 - a))) fun x2 =>
         lt (bearR (IntKind.i64.wrap (0 - b)) (IntKind.i64.wrap (0 - a)) c d) fun x3 =>
         cond (x1.2.2 != 0)
         (some (.v (.bool false)))
         (cond (x2.2.2 != 0)
          (some (.v (.bool false)))
          (cond (x3.2.2 != 0)
           (some (.v (.bool false)))
           (cond (decide (x1.1 > x1.2.1))
            (some (.v (.bool false)))
            (cond (decide (x1.1 < 0))
             (some (.v (.bool false)))
             (cond (decide (x1.2.1 > 43200000))
              (some (.v (.bool false)))
              (lt (turnR (IntKind.i64.wrap (x1.1 + 5400000)) (IntKind.i64.wrap (x1.2.1 + 5400000))) fun x4 =>
               lt (turnR (IntKind.i64.wrap (0 - x1.2.1)) (IntKind.i64.wrap (0 - x1.1))) fun x5 =>
               cond (x4.2.2 != 0)
               (some (.v (.bool false)))
               (cond (x5.2.2 != 0)
                (some (.v (.bool false)))
                (cond (!((x2.1 == x4.1) && ((x2.2.1 == x4.2.1) && true)))
                 (some (.v (.bool false)))
                 (cond (!((x3.1 == x5.1) && ((x3.2.1 == x5.2.1) && true)))
                  (some (.v (.bool false)))
                  (cond (decide (IntKind.i64.wrap ((IntKind.i64.wrap (1 + (Int.tmod (IntKind.i64.wrap (e)) 9))) * a) ≤ IntKind.i64.wrap ((IntKind.i64.wrap (1 + (Int.tmod (IntKind.i64.wrap (e)) 9))) * b)))
                   (cond (decide (IntKind.i64.wrap ((IntKind.i64.wrap (1 + (Int.tmod (IntKind.i64.wrap (e)) 9))) * a) ≥ (-2147483648)))
                    (cond (!(decide (IntKind.i64.wrap ((IntKind.i64.wrap (1 + (Int.tmod (IntKind.i64.wrap (e)) 9))) * b) ≤ 2147483648)))
                     (some (.v (.bool true)))
                     (cond (decide (IntKind.i64.wrap ((IntKind.i64.wrap (1 + (Int.tmod (IntKind.i64.wrap (e)) 9))) * c) ≤ IntKind.i64.wrap ((IntKind.i64.wrap (1 + (Int.tmod (IntKind.i64.wrap (e)) 9))) * d)))
                      (cond (decide (IntKind.i64.wrap ((IntKind.i64.wrap (1 + (Int.tmod (IntKind.i64.wrap (e)) 9))) * c) ≥ (-2147483648)))
                       (cond (!(decide (IntKind.i64.wrap ((IntKind.i64.wrap (1 + (Int.tmod (IntKind.i64.wrap (e)) 9))) * d) ≤ 2147483648)))
                        (some (.v (.bool true)))
                        (lt (bearR (IntKind.i64.wrap ((IntKind.i64.wrap (1 + (Int.tmod (IntKind.i64.wrap (e)) 9))) * a)) (IntKind.i64.wrap ((IntKind.i64.wrap (1 + (Int.tmod (IntKind.i64.wrap (e)) 9))) * b)) (IntKind.i64.wrap ((IntKind.i64.wrap (1 + (Int.tmod (IntKind.i64.wrap (e)) 9))) * c)) (IntKind.i64.wrap ((IntKind.i64.wrap (1 + (Int.tmod (IntKind.i64.wrap (e)) 9))) * d))) fun x6 =>
                         cond (x6.2.2 == 0)
                         (some (.v (.bool ((x6.1 == x1.1) && ((x6.2.1 == x1.2.1) && true)))))
                         (some (.v (.bool false)))))
                       (some (.v (.bool true))))
                      (some (.v (.bool true)))))
                    (some (.v (.bool true))))
                   (some (.v (.bool true)))))))))))))))
       (some (.v (.bool true))))
      (some (.v (.bool true)))))
    (some (.v (.bool true))))
   (some (.v (.bool true)))) := by kernel_rfl
theorem tu_any (a b c d e : Int) (hc : 0 ≤ e ∧ e ≤ 255) : Gives Try.prog 8 [.agg ⟨[.int .i64 a, .int .i64 b]⟩, .agg ⟨[.int .i64 c, .int .i64 d]⟩, .int .u8 e] (.bool true) := by
  refine evF_gives (E := Es) mixed Es_ok Cs_ok book_tu_ok (lim := 20) (d := 6) (nm := []) ?_
  rw [tu_tree]
  have decT : ∀ {p : Prop} [Decidable p], p → decide p = true := fun h => decide_eq_true h
  have decF : ∀ {p : Prop} [Decidable p], ¬ p → decide p = false := fun h => decide_eq_false h
  have et : trueB = true := rfl
  simp only [lt, et, Bool.not_true, cond_false]
  by_cases g1 : a ≤ b
  case neg => rw [decF g1]; rfl
  by_cases g2 : a ≥ -2147483648
  case neg => rw [decT g1, decF g2]; rfl
  by_cases g3 : b ≤ 2147483648
  case neg => rw [decT g1, decT g2, decF g3]; rfl
  by_cases g4 : c ≤ d
  case neg => rw [decT g1, decT g2, decT g3, decF g4]; rfl
  by_cases g5 : c ≥ -2147483648
  case neg => rw [decT g1, decT g2, decT g3, decT g4, decF g5]; rfl
  by_cases g6 : d ≤ 2147483648
  case neg => rw [decT g1, decT g2, decT g3, decT g4, decT g5, decF g6]; rfl
  rw [decT g1, decT g2, decT g3, decT g4, decT g5, decT g6]
  simp only [cond_true, cond_false, Bool.not_true]
  have v1 : validB a b = true := by unfold validB; exact decT ⟨g2, g1, g3⟩
  have v2 : validB c d = true := by unfold validB; exact decT ⟨g5, g4, g6⟩
  obtain ⟨p, q, e1, p0, p1, pq, q1, e2, e3⟩ := turns_plain v1 v2
  rw [i64w (x := 0 - a) (by omega), i64w (x := 0 - b) (by omega), Int.zero_sub, Int.zero_sub, e1, e2, e3]
  dsimp only
  rw [i64w (x := p + 5400000) (by omega), i64w (x := q + 5400000) (by omega), i64w (x := 0 - p) (by omega), i64w (x := 0 - q) (by omega), Int.zero_sub, Int.zero_sub]
  have t1 : turnR (p + 5400000) (q + 5400000) = (turnL (p + 5400000) (q + 5400000), turnH (p + 5400000) (q + 5400000), 0) := by unfold turnR; rw [if_pos (avalid_yes (by omega) (by omega) (by omega))]
  have t2 : turnR (-q) (-p) = (turnL (-q) (-p), turnH (-q) (-p), 0) := by unfold turnR; rw [if_pos (avalid_yes (by omega) (by omega) (by omega))]
  rw [t1, t2]
  dsimp only
  have z : ((0 : Int) != 0) = false := rfl
  have z' : ((0 : Int) == 0) = true := rfl
  rw [decF (show ¬ p > q by omega), decF (show ¬ p < 0 by omega), decF (show ¬ q > 43200000 by omega)]
  simp only [z, cond_false, beq_self_eq_true, Bool.and_self, Bool.not_true]
  have em : IntKind.i64.wrap (1 + Int.tmod (IntKind.i64.wrap e) 9) = 1 + e % 9 := by
    rw [i64w (x := e) (by omega), Int.tmod_eq_emod_of_nonneg (by omega), i64w (by omega)]
  rw [em]
  have hm : 0 < 1 + e % 9 ∧ 1 + e % 9 ≤ 9 := by omega
  generalize 1 + e % 9 = m at *
  have mb : ∀ x : Int, -2147483648 ≤ x → x ≤ 2147483648 → -9223372036854775808 ≤ m * x ∧ m * x ≤ 9223372036854775807 := fun x h1 h2 => by
    have hm' : m = 1 ∨ m = 2 ∨ m = 3 ∨ m = 4 ∨ m = 5 ∨ m = 6 ∨ m = 7 ∨ m = 8 ∨ m = 9 := by omega
    rcases hm' with rfl | rfl | rfl | rfl | rfl | rfl | rfl | rfl | rfl <;> omega
  rw [i64w (mb a (by omega) (by omega)), i64w (mb b (by omega) (by omega)), i64w (mb c (by omega) (by omega)), i64w (mb d (by omega) (by omega))]
  by_cases k1 : m * a ≤ m * b
  case neg => rw [decF k1]; rfl
  by_cases k2 : m * a ≥ -2147483648
  case neg => rw [decT k1, decF k2]; rfl
  by_cases k3 : m * b ≤ 2147483648
  case neg => rw [decT k1, decT k2, decF k3]; rfl
  by_cases k4 : m * c ≤ m * d
  case neg => rw [decT k1, decT k2, decT k3, decF k4]; rfl
  by_cases k5 : m * c ≥ -2147483648
  case neg => rw [decT k1, decT k2, decT k3, decT k4, decF k5]; rfl
  by_cases k6 : m * d ≤ 2147483648
  case neg => rw [decT k1, decT k2, decT k3, decT k4, decT k5, decF k6]; rfl
  have w1 : validB (m * a) (m * b) = true := by unfold validB; exact decT ⟨k2, k1, k3⟩
  have w2 : validB (m * c) (m * d) = true := by unfold validB; exact decT ⟨k5, k4, k6⟩
  rw [decT k1, decT k2, decT k3, decT k4, decT k5, decT k6, stretch_plain hm.1 hm.2 v1 v2 w1 w2, e1]
  simp only [z', cond_false, cond_true, beq_self_eq_true, Bool.and_self, Bool.not_true]
end Go.Proofs.Ytmlmohcghoelkaa
