/-
  HaversineMeridian answers true.
-/
import Derived.Test.YtcjkfchjcealbaaZ2
import Derived.Test.YtcjkfchjcealbaaTa
namespace Go.Proofs.Ytcjkfchjcealbaa
open Ev

open SM TA
theorem decT {p : Prop} [Decidable p] (h : p) : decide p = true := decide_eq_true h
theorem decF {p : Prop} [Decidable p] (h : ¬ p) : decide p = false := decide_eq_false h
theorem C_abs (a c : Int) : -(1073741824 + 1 / 2 ^ 26) ≤ C a * C c / 1073741824 ∧ C a * C c / 1073741824 ≤ 1073741824 + 1 / 2 ^ 26 := by
  have p := C_bd a
  have q := C_bd c
  have m := mul_abs (a := C a) (b := C c) (A := 1073741824 + 1 / 2 ^ 30) (B := 1073741824 + 1 / 2 ^ 30) (by grind) (by grind) (by grind) (by grind)
  generalize C a * C c = x at *
  constructor <;> grind
/-- The zenith distance at the upper meridian, at the lower one, and seen from a pole. -/
theorem W_up (a c t : Int) (h : H t ≤ 1 / 2 ^ 30) : -(1 / 2 ^ 26) ≤ Wz a c t - H (a - c) ∧ Wz a c t - H (a - c) ≤ 1 / 2 ^ 26 := by
  have b := H_bd t
  have x := C_abs a c
  unfold Wz
  generalize C a * C c / 1073741824 = X at *
  have m := mul_abs (a := X) (b := H t) (A := 1073741824 + 1 / 2 ^ 26) (B := 1 / 2 ^ 30) x.1 x.2 (by grind) h
  generalize X * H t = y at *
  constructor <;> grind
theorem W_low (a c t : Int) (h : 1073741824 - 1 / 2 ^ 30 ≤ H t) : -(1 / 2 ^ 25) ≤ Wz a c t - H (10800000 - a - c) ∧ Wz a c t - H (10800000 - a - c) ≤ 1 / 2 ^ 25 := by
  have b := H_bd t
  have s := H_sum a c
  have x := C_abs a c
  unfold Wz
  generalize C a * C c / 1073741824 = X at *
  have m := mul_abs (a := X) (b := H t - 1073741824) (A := 1073741824 + 1 / 2 ^ 26) (B := 1 / 2 ^ 30) x.1 x.2 (by grind) (by grind)
  have e : X * H t = X * (H t - 1073741824) + X * 1073741824 := by grind
  rw [e]
  generalize X * (H t - 1073741824) = y at *
  constructor <;> grind
theorem W_pole (c t : Int) : -(1 / 2 ^ 25) ≤ Wz 5400000 c t - H (5400000 - c) ∧ Wz 5400000 c t - H (5400000 - c) ≤ 1 / 2 ^ 25 := by
  have b := H_bd t
  have q := quarterQ.1
  have p := C_bd c
  have x : -(1 / 2 ^ 29) ≤ C 5400000 * C c / 1073741824 ∧ C 5400000 * C c / 1073741824 ≤ 1 / 2 ^ 29 := by
    have m := mul_abs (a := C 5400000) (b := C c) (A := 1 / 2 ^ 30) (B := 1073741824 + 1 / 2 ^ 30) (by unfold C; grind) (by unfold C; grind) (by grind) (by grind)
    generalize C 5400000 * C c = y at *
    constructor <;> grind
  unfold Wz
  generalize C 5400000 * C c / 1073741824 = X at *
  have m := mul_abs (a := X) (b := H t) (A := 1 / 2 ^ 29) (B := 1073741824 + 1 / 2 ^ 30) x.1 x.2 (by grind) b.2
  generalize X * H t = y at *
  constructor <;> grind
theorem H_cong {m n : Int} (h : m % 21600000 = n % 21600000) : H m = H n := by
  unfold H C
  rw [(turnQ m n h).1]
theorem tri_mk {a b c d e f : Int} (h1 : -5400000 ≤ a) (h2 : a ≤ b) (h3 : b ≤ 5400000) (h4 : -5400000 ≤ c) (h5 : c ≤ d) (h6 : d ≤ 5400000) (h7 : avalidB e f = true) : triB a b c d e f = true := by
  unfold triB latB
  rw [avalid_mk (by omega) h2 (by omega), avalid_mk (by omega) h5 (by omega), h7, decT h1, decT h3, decT h4, decT h6]
  rfl
/-- A whole angle whose haversine is the true one is in the zenith distance. -/
theorem zen_in {a b c d e f x y t z : Int} (h : triB a b c d e f = true) (hx : a ≤ x ∧ x ≤ b) (hy : c ≤ y ∧ y ≤ d) (ht : e ≤ t ∧ t ≤ f) (z0 : 0 ≤ z) (z1 : z ≤ 10800000)
    (h1 : -(1 / 2 ^ 22) ≤ Wz x y t - H z) (h2 : Wz x y t - H z ≤ 1 / 2 ^ 22) : (zenM a b c d e f).1 ≤ z ∧ z ≤ (zenM a b c d e f).2.1 := by
  obtain ⟨k0, k1, k2, k3, k4⟩ := zen_ends h hx hy ht
  exact ⟨H_inv (e := 1 / 2 ^ 21) z0 (by omega) (by decide +kernel) (by grind), H_inv (e := 1 / 2 ^ 21) (by omega) z1 (by decide +kernel) (by grind)⟩
noncomputable def rvalM (a b : Int) : Bool :=
  cond (decide (a ≤ b))
  (cond (decide (a ≥ (-1099511627776)))
   ((decide (b ≤ 1099511627776)))
   (false))
  (false)
noncomputable def book_rvalM_gives : Book := []
theorem book_rvalM_gives_ok : BookOk Try.prog book_rvalM_gives := bookOk_nil
theorem rvalM_gives_tree (a b : Int) : evF Try.prog Es Cs book_rvalM_gives 20 6 12 ([.agg ⟨[.int .i64 a, .int .i64 b]⟩].map AV.v) [] [] last =
  cond (decide (a ≤ b))
  (cond (decide (a ≥ (-1099511627776)))
   (some (.v (.bool (decide (b ≤ 1099511627776)))))
   (some (.v (.bool false))))
  (some (.v (.bool false))) := by kernel_rfl
theorem rvalM_gives (a b : Int) : Gives Try.prog 12 [.agg ⟨[.int .i64 a, .int .i64 b]⟩] (.bool (rvalM a b)) := by
  refine evF_gives (E := Es) mixed Es_ok Cs_ok book_rvalM_gives_ok (lim := 20) (d := 6) (nm := []) ?_
  rw [rvalM_gives_tree a b]
  unfold rvalM
  refine case_cond (fun (r : Bool) => AV.v (.bool (r))) ?_ ?_
  · refine case_cond (fun (r : Bool) => AV.v (.bool (r))) ?_ ?_
    · rfl
    · rfl
  · rfl
noncomputable def book_hm : Book := [(8, e0 (.bool (true))), (9, eT (fun a b c d e f => arcV (zenM a b c d e f))), (12, eP (fun a b => .bool (rvalM a b)))]
theorem book_hm_ok : BookOk Try.prog book_hm := (bookOk_cons (e0_ok awake_gives) (bookOk_cons (eT_ok zenM_gives) (bookOk_cons (eP_ok rvalM_gives) bookOk_nil)))
theorem hm_tree (a b c : Int) : evF Try.prog Es Cs book_hm 20 6 3 ([.int .i64 a, .int .i64 b, .int .i8 c].map AV.v) [] [] last =
  cond (!(true))
  (some (.v (.bool false)))
  (cond (decide (a < (-5400000)))
   (some (.v (.bool true)))
   (cond (decide (a > 5400000))
    (some (.v (.bool true)))
    (cond (decide (b < (-5400000)))
     (some (.v (.bool true)))
     (cond (decide (b > 5400000))
      (some (.v (.bool true)))
      (lt (zenM a a b b (IntKind.i64.wrap ((IntKind.i64.wrap (c)) * 21600000)) (IntKind.i64.wrap ((IntKind.i64.wrap (c)) * 21600000))) fun x1 =>
       lt (zenM a a b b (IntKind.i64.wrap ((IntKind.i64.wrap ((IntKind.i64.wrap (c)) * 21600000)) + 10800000)) (IntKind.i64.wrap ((IntKind.i64.wrap ((IntKind.i64.wrap (c)) * 21600000)) + 10800000))) fun x2 =>
       lt (zenM 5400000 5400000 b b a a) fun x3 =>
       cond (x1.2.2 != 0)
       (some (.v (.bool false)))
       (cond (x2.2.2 != 0)
        (some (.v (.bool false)))
        (cond (x3.2.2 != 0)
         (some (.v (.bool false)))
         (cond (decide ((mx (IntKind.i64.wrap (a - b)) (IntKind.i64.wrap (b - a))) ≥ x1.1))
          (cond (decide ((mx (IntKind.i64.wrap (a - b)) (IntKind.i64.wrap (b - a))) ≤ x1.2.1))
           (cond (decide (IntKind.i64.wrap (10800000 - (mx (IntKind.i64.wrap (a + b)) (IntKind.i64.wrap ((IntKind.i64.wrap (0 - a)) - b)))) ≥ x2.1))
            (cond (decide (IntKind.i64.wrap (10800000 - (mx (IntKind.i64.wrap (a + b)) (IntKind.i64.wrap ((IntKind.i64.wrap (0 - a)) - b)))) ≤ x2.2.1))
             (cond (decide (IntKind.i64.wrap (5400000 - b) ≥ x3.1))
              (cond (decide (IntKind.i64.wrap (5400000 - b) ≤ x3.2.1))
               (some (.v (.bool (rvalM x1.1 x1.2.1))))
               (some (.v (.bool false))))
              (some (.v (.bool false))))
             (some (.v (.bool false))))
            (some (.v (.bool false))))
           (some (.v (.bool false))))
          (some (.v (.bool false))))))))))) := by kernel_rfl
theorem hm_any (a b c : Int) (hc : -128 ≤ c ∧ c ≤ 127) : Gives Try.prog 3 [.int .i64 a, .int .i64 b, .int .i8 c] (.bool true) := by
  refine evF_gives (E := Es) mixed Es_ok Cs_ok book_hm_ok (lim := 20) (d := 6) (nm := []) ?_
  rw [hm_tree]
  simp only [lt, Bool.not_true, cond_false]
  by_cases g1 : a < -5400000
  · rw [decT g1]; rfl
  by_cases g2 : a > 5400000
  · rw [decF g1, decT g2]; rfl
  by_cases g3 : b < -5400000
  · rw [decF g1, decF g2, decT g3]; rfl
  by_cases g4 : b > 5400000
  · rw [decF g1, decF g2, decF g3, decT g4]; rfl
  rw [decF g1, decF g2, decF g3, decF g4]
  simp only [cond_false]
  rw [i64w (x := c) (by omega), i64w (x := c * 21600000) (by omega), i64w (x := c * 21600000 + 10800000) (by omega), i64w (x := a - b) (by omega), i64w (x := b - a) (by omega), i64w (x := a + b) (by omega), i64w (x := 0 - a) (by omega), i64w (x := 0 - a - b) (by omega), i64w (x := 5400000 - b) (by omega)]
  have m1 := mx_bd (a - b) (b - a)
  have m2 := mx_bd (a + b) (0 - a - b)
  generalize mx (a - b) (b - a) = d at *
  generalize mx (a + b) (0 - a - b) = s at *
  rw [i64w (x := 10800000 - s) (by omega)]
  have t1 : triB a a b b (c * 21600000) (c * 21600000) = true := tri_mk (by omega) (by omega) (by omega) (by omega) (by omega) (by omega) (avalid_mk (by omega) (by omega) (by omega))
  have t2 : triB a a b b (c * 21600000 + 10800000) (c * 21600000 + 10800000) = true := tri_mk (by omega) (by omega) (by omega) (by omega) (by omega) (by omega) (avalid_mk (by omega) (by omega) (by omega))
  have t3 : triB 5400000 5400000 b b a a = true := tri_mk (by omega) (by omega) (by omega) (by omega) (by omega) (by omega) (avalid_mk (by omega) (by omega) (by omega))
  have z1 : (zenM a a b b (c * 21600000) (c * 21600000)).2.2 = 0 := by rw [zen_ok t1]
  have z2 : (zenM a a b b (c * 21600000 + 10800000) (c * 21600000 + 10800000)).2.2 = 0 := by rw [zen_ok t2]
  have z3 : (zenM 5400000 5400000 b b a a).2.2 = 0 := by rw [zen_ok t3]
  have n1 := H_neg (a - b)
  rw [show -(a - b) = b - a by omega] at n1
  have hd : -(1 / 2 ^ 40) ≤ H d - H (a - b) ∧ H d - H (a - b) ≤ 1 / 2 ^ 40 := by
    rcases m1.2.2 with q | q
    · rw [q]; constructor <;> grind
    · rw [q]; exact n1
  have n2 := H_turn (10800000 - a - b)
  have hs : -(1 / 2 ^ 40) ≤ H (10800000 - s) - H (10800000 - a - b) ∧ H (10800000 - s) - H (10800000 - a - b) ≤ 1 / 2 ^ 40 := by
    rcases m2.2.2 with q | q
    · rw [q, show 10800000 - (a + b) = 10800000 - a - b by omega]; constructor <;> grind
    · rw [q, show 10800000 - (0 - a - b) = 21600000 - (10800000 - a - b) by omega]; exact n2
  have q1 : H (c * 21600000) ≤ 1 / 2 ^ 30 := by
    rw [H_cong (n := 0) (by omega)]
    have := H_zero
    grind
  have q2 : 1073741824 - 1 / 2 ^ 30 ≤ H (c * 21600000 + 10800000) := by
    rw [H_cong (n := 10800000) (by omega)]
    have := H_half
    grind
  have w1 := W_up a b _ q1
  have w2 := W_low a b _ q2
  have w3 := W_pole b a
  have r1 := zen_in (x := a) (y := b) (t := c * 21600000) (z := d) t1 (by omega) (by omega) (by omega) (by omega) (by omega) (by grind) (by grind)
  have r2 := zen_in (x := a) (y := b) (t := c * 21600000 + 10800000) (z := 10800000 - s) t2 (by omega) (by omega) (by omega) (by omega) (by omega) (by grind) (by grind)
  have r3 := zen_in (x := 5400000) (y := b) (t := a) (z := 5400000 - b) t3 (by omega) (by omega) (by omega) (by omega) (by omega) (by grind) (by grind)
  obtain ⟨k0, k1, k2, _⟩ := zen_ends (x := a) (y := b) (t := c * 21600000) t1 (by omega) (by omega) (by omega)
  have rv : rvalM (zenM a a b b (c * 21600000) (c * 21600000)).1 (zenM a a b b (c * 21600000) (c * 21600000)).2.1 = true := by
    unfold rvalM
    rw [decT k1, decT (by omega), cond_true, cond_true]
    exact decT (by omega)
  rw [z1, z2, z3, rv, decT (show d ≥ (zenM a a b b (c * 21600000) (c * 21600000)).1 from r1.1), decT r1.2, decT (show 10800000 - s ≥ _ from r2.1), decT r2.2, decT (show 5400000 - b ≥ _ from r3.1), decT r3.2]
  rfl
end Go.Proofs.Ytcjkfchjcealbaa
