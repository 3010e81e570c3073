/-
  AgetonMirrors, AgetonReflects, AgetonContains answer true.
-/
import Derived.Test.YtcoopclgfimahaaL27
import Derived.Test.YtcoopclgfimahaaHb
namespace Go.Proofs.Ytcoopclgfimahaa
open Ev

open SM TB TA
theorem same (x y : Int) : ((x == x) && ((y == y) && true)) = true := by simp
theorem turn_val {p q : Int} (h1 : -100000000 ≤ p) (h2 : p ≤ q) (h3 : q ≤ 100000000) : turnR p q = (turnL p q, turnH p q, 0) := by
  unfold turnR
  rw [avalid_mk (by omega) h2 (by omega)]
  rfl
noncomputable def turnedM (a b c d : Int) : Bool :=
  cond ((c == 0) && ((d == 21600000) && true))
  (true)
  (cond (insideB a b c d)
   (true)
   ((insideB (IntKind.i64.wrap (a + 21600000)) (IntKind.i64.wrap (b + 21600000)) c d)))
noncomputable def book_turnedM_gives : Book := [(18, ePP (fun a b c d => .bool (insideB a b c d)))]
theorem book_turnedM_gives_ok : BookOk Try.prog book_turnedM_gives := (bookOk_cons (ePP_ok insideB_gives) bookOk_nil)
theorem turnedM_gives_tree (a b c d : Int) : evF Try.prog Es Cs book_turnedM_gives 20 6 19 ([.agg ⟨[.int .i64 a, .int .i64 b]⟩, .agg ⟨[.int .i64 c, .int .i64 d]⟩].map AV.v) [] [] last =
  cond ((c == 0) && ((d == 21600000) && true))
  (some (.v (.bool true)))
  (cond (insideB a b c d)
   (some (.v (.bool true)))
   (some (.v (.bool (insideB (IntKind.i64.wrap (a + 21600000)) (IntKind.i64.wrap (b + 21600000)) c d))))) := by kernel_rfl
theorem turnedM_gives (a b c d : Int) : Gives Try.prog 19 [.agg ⟨[.int .i64 a, .int .i64 b]⟩, .agg ⟨[.int .i64 c, .int .i64 d]⟩] (.bool (turnedM a b c d)) := by
  refine evF_gives (E := Es) mixed Es_ok Cs_ok book_turnedM_gives_ok (lim := 20) (d := 6) (nm := []) ?_
  rw [turnedM_gives_tree a b c d]
  unfold turnedM
  refine case_cond (fun (r : Bool) => AV.v (.bool (r))) ?_ ?_
  · rfl
  · refine case_cond (fun (r : Bool) => AV.v (.bool (r))) ?_ ?_
    · rfl
    · rfl
noncomputable def book_agmi_any : Book := [(14, e0 (.bool (true))), (15, eT (fun a b c d e f => .bool (rtriM a b c d e f))), (16, eT (fun a b c d e f => solV (solM a b c d e f))), (20, eT (fun a b c d e f => twoV (dvdM a b c d e f))), (25, eP (fun a b => arcV (turnR a b)))]
theorem book_agmi_any_ok : BookOk Try.prog book_agmi_any := (bookOk_cons (e0_ok awake27_gives) (bookOk_cons (eT_ok rtriM_gives) (bookOk_cons (eT_ok solM_gives) (bookOk_cons (eT_ok dvdM_gives) (bookOk_cons (eP_ok turnR_gives) bookOk_nil)))))
theorem agmi_any_tree (a b c d e f : Int) : evF Try.prog Es Cs book_agmi_any 20 6 5 ([.agg ⟨[.int .i64 a, .int .i64 b, .int .i64 c, .int .i64 d, .int .i64 e, .int .i64 f]⟩].map AV.v) [] [] last =
  cond (!(true))
  (some (.v (.bool false)))
  (cond (!(rtriM a b c d e f))
   (some (.v (.bool true)))
   (lt (dvdM a b c d e f) fun x1 =>
    lt (dvdM a b c d (IntKind.i64.wrap (0 - f)) (IntKind.i64.wrap (0 - e))) fun x2 =>
    lt (solM a b c d e f) fun x3 =>
    lt (solM a b c d (IntKind.i64.wrap (0 - f)) (IntKind.i64.wrap (0 - e))) fun x4 =>
    lt (turnR (IntKind.i64.wrap (0 - x3.2.2.2.1)) (IntKind.i64.wrap (0 - x3.2.2.1))) fun x5 =>
    cond (x1.2.2.2.2 == 0)
    (cond (x2.2.2.2.2 == 0)
     (cond (x3.2.2.2.2 == 0)
      (cond (x4.2.2.2.2 == 0)
       (cond (x5.2.2 == 0)
        (cond ((x2.1 == IntKind.i64.wrap (0 - x1.2.1)) && ((x2.2.1 == IntKind.i64.wrap (0 - x1.1)) && true))
         (cond ((x2.2.2.1 == x1.2.2.1) && ((x2.2.2.2.1 == x1.2.2.2.1) && true))
          (cond ((x4.1 == x3.1) && ((x4.2.1 == x3.2.1) && true))
           (some (.v (.bool ((x4.2.2.1 == x5.1) && ((x4.2.2.2.1 == x5.2.1) && true)))))
           (some (.v (.bool false))))
          (some (.v (.bool false))))
         (some (.v (.bool false))))
        (some (.v (.bool false))))
       (some (.v (.bool false))))
      (some (.v (.bool false))))
     (some (.v (.bool false))))
    (some (.v (.bool false))))) := by kernel_rfl
theorem agmi_any (a b c d e f : Int) : Gives Try.prog 5 [.agg ⟨[.int .i64 a, .int .i64 b, .int .i64 c, .int .i64 d, .int .i64 e, .int .i64 f]⟩] (.bool (allT a b c d e f)) := by
  refine evF_gives (E := Es) mixed Es_ok Cs_ok book_agmi_any_ok (lim := 20) (d := 6) (nm := []) ?_
  rw [agmi_any_tree a b c d e f]
  simp only [lt, Bool.not_true, cond_false]
  rw [rtri_eq]
  unfold allT
  cases ht : triB a b c d e f with
  | false => rfl
  | true =>
    obtain ⟨h1, h2, h3⟩ := tri_bd ht
    have l3 := aval_bd h3
    have hm := tri_mir ht
    have mo := mir_ok ht
    have p := (div_one ht).2.2.1
    have q := (sol_one ht).2.2.2.2.2.2.2.2.2
    rw [Bool.not_true, cond_false, i64w (x := 0 - f) (by omega), i64w (x := 0 - e) (by omega), Int.zero_sub, Int.zero_sub, dvd_ok ht, dvd_ok hm, sol_ok ht, sol_ok hm, mo.1, mo.2.1, mo.2.2.1, mo.2.2.2]
    dsimp only [opR]
    have p0 := p.1
    have p1 := p.2.1
    have p2 := p.2.2.1
    have q0 := q.1
    have q1 := q.2.1
    have q2 := q.2.2.1
    have q3 := q.2.2.2.1
    rw [i64w (x := 0 - (azE a b c d e f).2.1) (by omega), i64w (x := 0 - (azE a b c d e f).1) (by omega), Int.zero_sub, Int.zero_sub, turn_val (by omega) (by omega) (by omega), i64w (x := 0 - (perE c d e f).2.1) (by omega), i64w (x := 0 - (perE c d e f).1) (by omega), Int.zero_sub, Int.zero_sub]
    dsimp only
    rw [same, same, same, same]
    rfl
noncomputable def book_agr_any : Book := [(14, e0 (.bool (true))), (15, eT (fun a b c d e f => .bool (rtriM a b c d e f))), (16, eT (fun a b c d e f => solV (solM a b c d e f))), (20, eT (fun a b c d e f => twoV (dvdM a b c d e f))), (25, eP (fun a b => arcV (turnR a b)))]
theorem book_agr_any_ok : BookOk Try.prog book_agr_any := (bookOk_cons (e0_ok awake27_gives) (bookOk_cons (eT_ok rtriM_gives) (bookOk_cons (eT_ok solM_gives) (bookOk_cons (eT_ok dvdM_gives) (bookOk_cons (eP_ok turnR_gives) bookOk_nil)))))
theorem agr_any_tree (a b c d e f : Int) : evF Try.prog Es Cs book_agr_any 20 6 6 ([.agg ⟨[.int .i64 a, .int .i64 b, .int .i64 c, .int .i64 d, .int .i64 e, .int .i64 f]⟩].map AV.v) [] [] last =
  cond (!(true))
  (some (.v (.bool false)))
  (cond (!(rtriM a b c d e f))
   (some (.v (.bool true)))
   (lt (dvdM a b c d e f) fun x1 =>
    lt (dvdM (IntKind.i64.wrap (0 - b)) (IntKind.i64.wrap (0 - a)) (IntKind.i64.wrap (0 - d)) (IntKind.i64.wrap (0 - c)) e f) fun x2 =>
    lt (solM a b c d e f) fun x3 =>
    lt (solM (IntKind.i64.wrap (0 - b)) (IntKind.i64.wrap (0 - a)) (IntKind.i64.wrap (0 - d)) (IntKind.i64.wrap (0 - c)) e f) fun x4 =>
    lt (turnR (IntKind.i64.wrap (0 - x1.2.2.2.1)) (IntKind.i64.wrap (0 - x1.2.2.1))) fun x5 =>
    lt (turnR (IntKind.i64.wrap (10800000 - x3.2.2.2.1)) (IntKind.i64.wrap (10800000 - x3.2.2.1))) fun x6 =>
    cond (x1.2.2.2.2 == 0)
    (cond (x2.2.2.2.2 == 0)
     (cond (x3.2.2.2.2 == 0)
      (cond (x4.2.2.2.2 == 0)
       (cond (x5.2.2 == 0)
        (cond (x6.2.2 == 0)
         (cond ((x2.1 == x1.1) && ((x2.2.1 == x1.2.1) && true))
          (cond ((x2.2.2.1 == x5.1) && ((x2.2.2.2.1 == x5.2.1) && true))
           (cond ((x4.1 == x3.1) && ((x4.2.1 == x3.2.1) && true))
            (some (.v (.bool ((x4.2.2.1 == x6.1) && ((x4.2.2.2.1 == x6.2.1) && true)))))
            (some (.v (.bool false))))
           (some (.v (.bool false))))
          (some (.v (.bool false))))
         (some (.v (.bool false))))
        (some (.v (.bool false))))
       (some (.v (.bool false))))
      (some (.v (.bool false))))
     (some (.v (.bool false))))
    (some (.v (.bool false))))) := by kernel_rfl
theorem agr_any (a b c d e f : Int) : Gives Try.prog 6 [.agg ⟨[.int .i64 a, .int .i64 b, .int .i64 c, .int .i64 d, .int .i64 e, .int .i64 f]⟩] (.bool (allT a b c d e f)) := by
  refine evF_gives (E := Es) mixed Es_ok Cs_ok book_agr_any_ok (lim := 20) (d := 6) (nm := []) ?_
  rw [agr_any_tree a b c d e f]
  simp only [lt, Bool.not_true, cond_false]
  rw [rtri_eq]
  unfold allT
  cases ht : triB a b c d e f with
  | false => rfl
  | true =>
    obtain ⟨h1, h2, h3⟩ := tri_bd ht
    have l1 := lat_bd h1
    have l2 := lat_bd h2
    obtain ⟨hm, m1, m2, m3, m4⟩ := refl_ok ht
    have p := (div_one ht).2.2.2
    have q := (sol_one ht).2.2.2.2.2.2.2.2.2
    rw [Bool.not_true, cond_false, i64w (x := 0 - b) (by omega), i64w (x := 0 - a) (by omega), i64w (x := 0 - d) (by omega), i64w (x := 0 - c) (by omega), Int.zero_sub, Int.zero_sub, Int.zero_sub, Int.zero_sub, dvd_ok ht, dvd_ok hm, sol_ok ht, sol_ok hm, m1, m2, m3, m4]
    dsimp only
    have p0 := p.1
    have p1 := p.2.1
    have p2 := p.2.2.1
    have p3 := p.2.2.2.1
    have q0 := q.1
    have q1 := q.2.1
    have q2 := q.2.2.1
    have q3 := q.2.2.2.1
    rw [i64w (x := 0 - (fooE c d e f).2.1) (by omega), i64w (x := 0 - (fooE c d e f).1) (by omega), Int.zero_sub, Int.zero_sub, turn_val (by omega) (by omega) (by omega), i64w (x := 10800000 - (azE a b c d e f).2.1) (by omega), i64w (x := 10800000 - (azE a b c d e f).1) (by omega), turn_val (by omega) (by omega) (by omega)]
    dsimp only
    rw [same, same, same, same]
    rfl
/-- A number of an arc, picked by a remainder. -/
def pk (a b u : Int) : Int := IntKind.i64.wrap (a + Int.tmod (IntKind.i64.wrap u) (IntKind.i64.wrap (IntKind.i64.wrap (b - a) + 1)))
theorem pk_ok {a b u : Int} (h1 : -1099511627776 ≤ a) (h2 : a ≤ b) (h3 : b ≤ 1099511627776) (h4 : 0 ≤ u) (h5 : u ≤ 4294967295) : (IntKind.i64.wrap (IntKind.i64.wrap (b - a) + 1) == 0) = false ∧ a ≤ pk a b u ∧ pk a b u ≤ b := by
  unfold pk
  rw [i64w (x := b - a) (by omega), i64w (x := b - a + 1) (by omega), i64w (x := u) (by omega)]
  have m0 := Int.tmod_nonneg (b - a + 1) h4
  have m1 := Int.tmod_lt_of_pos u (show 0 < b - a + 1 by omega)
  rw [i64w (by omega)]
  exact ⟨beq_eq_false_iff_ne.2 (by omega), by omega, by omega⟩
theorem u32_bd (x : Int) : 0 ≤ IntKind.u32.wrap x ∧ IntKind.u32.wrap x ≤ 4294967295 := by
  unfold IntKind.wrap
  simp [IntKind.signed, IntKind.bits]
  omega
noncomputable def book_agc_any : Book := [(14, e0 (.bool (true))), (15, eT (fun a b c d e f => .bool (rtriM a b c d e f))), (16, eT (fun a b c d e f => solV (solM a b c d e f))), (18, ePP (fun a b c d => .bool (insideB a b c d))), (19, ePP (fun a b c d => .bool (turnedM a b c d)))]
theorem book_agc_any_ok : BookOk Try.prog book_agc_any := (bookOk_cons (e0_ok awake27_gives) (bookOk_cons (eT_ok rtriM_gives) (bookOk_cons (eT_ok solM_gives) (bookOk_cons (ePP_ok insideB_gives) (bookOk_cons (ePP_ok turnedM_gives) bookOk_nil)))))
theorem agc_any_tree (a b c d e f u v : Int) : evF Try.prog Es Cs book_agc_any 20 6 3 ([.agg ⟨[.int .i64 a, .int .i64 b, .int .i64 c, .int .i64 d, .int .i64 e, .int .i64 f]⟩, .int .u32 u, .int .u32 v].map AV.v) [] [] last =
  cond (!(true))
  (some (.v (.bool false)))
  (cond (!(rtriM a b c d e f))
   (some (.v (.bool true)))
   (lt (solM a b c d e f) fun x1 =>
    cond (IntKind.i64.wrap ((IntKind.i64.wrap (b - a)) + 1) == 0)
    (none)
    (cond (IntKind.i64.wrap ((IntKind.i64.wrap (b - (IntKind.i64.wrap (a + (Int.tmod (IntKind.i64.wrap (u)) (IntKind.i64.wrap ((IntKind.i64.wrap (b - a)) + 1))))))) + 1) == 0)
     (none)
     (cond (IntKind.i64.wrap ((IntKind.i64.wrap (d - c)) + 1) == 0)
      (none)
      (cond (IntKind.i64.wrap ((IntKind.i64.wrap (d - (IntKind.i64.wrap (c + (Int.tmod (IntKind.i64.wrap (v)) (IntKind.i64.wrap ((IntKind.i64.wrap (d - c)) + 1))))))) + 1) == 0)
       (none)
       (cond (IntKind.i64.wrap ((IntKind.i64.wrap (f - e)) + 1) == 0)
        (none)
        (cond (IntKind.i64.wrap ((IntKind.i64.wrap (f - (IntKind.i64.wrap (e + (Int.tmod (IntKind.i64.wrap (IntKind.u32.wrap (u + v))) (IntKind.i64.wrap ((IntKind.i64.wrap (f - e)) + 1))))))) + 1) == 0)
         (none)
         (lt (solM (IntKind.i64.wrap (a + (Int.tmod (IntKind.i64.wrap (u)) (IntKind.i64.wrap ((IntKind.i64.wrap (b - a)) + 1))))) (IntKind.i64.wrap ((IntKind.i64.wrap (a + (Int.tmod (IntKind.i64.wrap (u)) (IntKind.i64.wrap ((IntKind.i64.wrap (b - a)) + 1))))) + (Int.tmod (IntKind.i64.wrap (v)) (IntKind.i64.wrap ((IntKind.i64.wrap (b - (IntKind.i64.wrap (a + (Int.tmod (IntKind.i64.wrap (u)) (IntKind.i64.wrap ((IntKind.i64.wrap (b - a)) + 1))))))) + 1))))) (IntKind.i64.wrap (c + (Int.tmod (IntKind.i64.wrap (v)) (IntKind.i64.wrap ((IntKind.i64.wrap (d - c)) + 1))))) (IntKind.i64.wrap ((IntKind.i64.wrap (c + (Int.tmod (IntKind.i64.wrap (v)) (IntKind.i64.wrap ((IntKind.i64.wrap (d - c)) + 1))))) + (Int.tmod (IntKind.i64.wrap (u)) (IntKind.i64.wrap ((IntKind.i64.wrap (d - (IntKind.i64.wrap (c + (Int.tmod (IntKind.i64.wrap (v)) (IntKind.i64.wrap ((IntKind.i64.wrap (d - c)) + 1))))))) + 1))))) (IntKind.i64.wrap (e + (Int.tmod (IntKind.i64.wrap (IntKind.u32.wrap (u + v))) (IntKind.i64.wrap ((IntKind.i64.wrap (f - e)) + 1))))) (IntKind.i64.wrap ((IntKind.i64.wrap (e + (Int.tmod (IntKind.i64.wrap (IntKind.u32.wrap (u + v))) (IntKind.i64.wrap ((IntKind.i64.wrap (f - e)) + 1))))) + (Int.tmod (IntKind.i64.wrap (v)) (IntKind.i64.wrap ((IntKind.i64.wrap (f - (IntKind.i64.wrap (e + (Int.tmod (IntKind.i64.wrap (IntKind.u32.wrap (u + v))) (IntKind.i64.wrap ((IntKind.i64.wrap (f - e)) + 1))))))) + 1)))))) fun x2 =>
          cond (x1.2.2.2.2 == 0)
          (cond (x2.2.2.2.2 == 0)
           (cond (insideB x2.1 x2.2.1 x1.1 x1.2.1)
            (some (.v (.bool (turnedM x2.2.2.1 x2.2.2.2.1 x1.2.2.1 x1.2.2.2.1))))
            (some (.v (.bool false))))
           (some (.v (.bool false))))
          (some (.v (.bool false))))))))))) := by kernel_rfl
theorem agc_any (a b c d e f u v : Int) (hu : 0 ≤ u ∧ u ≤ 4294967295) (hv : 0 ≤ v ∧ v ≤ 4294967295) : Gives Try.prog 3 [.agg ⟨[.int .i64 a, .int .i64 b, .int .i64 c, .int .i64 d, .int .i64 e, .int .i64 f]⟩, .int .u32 u, .int .u32 v] (.bool true) := by
  refine evF_gives (E := Es) mixed Es_ok Cs_ok book_agc_any_ok (lim := 20) (d := 6) (nm := []) ?_
  rw [agc_any_tree]
  simp only [lt, Bool.not_true, cond_false]
  rw [rtri_eq]
  cases ht : triB a b c d e f with
  | false => rfl
  | true =>
    obtain ⟨h1, h2, h3⟩ := tri_bd ht
    have l1 := lat_bd h1
    have l2 := lat_bd h2
    have l3 := aval_bd h3
    have w := u32_bd (u + v)
    have k1 := pk_ok (a := a) (b := b) (u := u) (by omega) (by omega) (by omega) (by omega) (by omega)
    have k2 := pk_ok (a := pk a b u) (b := b) (u := v) (by omega) (by omega) (by omega) (by omega) (by omega)
    have k3 := pk_ok (a := c) (b := d) (u := v) (by omega) (by omega) (by omega) (by omega) (by omega)
    have k4 := pk_ok (a := pk c d v) (b := d) (u := u) (by omega) (by omega) (by omega) (by omega) (by omega)
    have k5 := pk_ok (a := e) (b := f) (u := IntKind.u32.wrap (u + v)) (by omega) (by omega) (by omega) (by omega) (by omega)
    have k6 := pk_ok (a := pk e f (IntKind.u32.wrap (u + v))) (b := f) (u := v) (by omega) (by omega) (by omega) (by omega) (by omega)
    have d1 : IntKind.i64.wrap (a + Int.tmod (IntKind.i64.wrap u) (IntKind.i64.wrap (IntKind.i64.wrap (b - a) + 1))) = pk a b u := rfl
    have d3 : IntKind.i64.wrap (c + Int.tmod (IntKind.i64.wrap v) (IntKind.i64.wrap (IntKind.i64.wrap (d - c) + 1))) = pk c d v := rfl
    have d5 : IntKind.i64.wrap (e + Int.tmod (IntKind.i64.wrap (IntKind.u32.wrap (u + v))) (IntKind.i64.wrap (IntKind.i64.wrap (f - e) + 1))) = pk e f (IntKind.u32.wrap (u + v)) := rfl
    rw [d1, d3, d5]
    have d2 : IntKind.i64.wrap (pk a b u + Int.tmod (IntKind.i64.wrap v) (IntKind.i64.wrap (IntKind.i64.wrap (b - pk a b u) + 1))) = pk (pk a b u) b v := rfl
    have d4 : IntKind.i64.wrap (pk c d v + Int.tmod (IntKind.i64.wrap u) (IntKind.i64.wrap (IntKind.i64.wrap (d - pk c d v) + 1))) = pk (pk c d v) d u := rfl
    have d6 : IntKind.i64.wrap (pk e f (IntKind.u32.wrap (u + v)) + Int.tmod (IntKind.i64.wrap v) (IntKind.i64.wrap (IntKind.i64.wrap (f - pk e f (IntKind.u32.wrap (u + v))) + 1))) = pk (pk e f (IntKind.u32.wrap (u + v))) f v := rfl
    rw [d2, d4, d6, k1.1, k2.1, k3.1, k4.1, k5.1, k6.1]
    have b1 := k1.2
    have b2 := k2.2
    have b3 := k3.2
    have b4 := k4.2
    have b5 := k5.2
    have b6 := k6.2
    clear d1 d2 d3 d4 d5 d6 k1 k2 k3 k4 k5 k6
    generalize pk (pk e f (IntKind.u32.wrap (u + v))) f v = f' at *
    generalize pk e f (IntKind.u32.wrap (u + v)) = e' at *
    generalize pk (pk c d v) d u = d' at *
    generalize pk c d v = c' at *
    generalize pk (pk a b u) b v = b' at *
    generalize pk a b u = a' at *
    obtain ⟨h', p1, p2, p3⟩ := part_ok (a' := a') (b' := b') (c' := c') (d' := d') (e' := e') (f' := f') ht ⟨by omega, by omega, by omega⟩ ⟨by omega, by omega, by omega⟩ ⟨by omega, by omega, by omega⟩
    have s1 := (sol_one ht).2.2.2.2.2.2.2
    have s2 := (sol_one h').2.2.2.2.2.2.2
    have v1 := s1.1.val
    have v2 := s2.1.val
    have v3 := s1.2.2.val
    have v4 := s2.2.2.val
    have q0 := s2.2.2.1
    have q1 := s2.2.2.2.1
    have q2 := s2.2.2.2.2.1
    have q3 := s2.2.2.2.2.2.1
    rw [sol_ok ht, sol_ok h']
    dsimp only
    have i1 : insideB (altE a' b' c' d' e' f').1 (altE a' b' c' d' e' f').2.1 (altE a b c d e f).1 (altE a b c d e f).2.1 = true := by
      unfold insideB
      rw [v1, v2, decide_eq_true p1, decide_eq_true p2]
      rfl
    have i2 : turnedM (azE a' b' c' d' e' f').1 (azE a' b' c' d' e' f').2.1 (azE a b c d e f).1 (azE a b c d e f).2.1 = true := by
      unfold turnedM
      rcases p3 with ⟨p3, p4⟩ | ⟨p3, p4⟩ | ⟨p3, p4⟩
      · rw [p3, p4]
        rfl
      · have w1 : insideB (IntKind.i64.wrap ((azE a' b' c' d' e' f').1 + 21600000)) (IntKind.i64.wrap ((azE a' b' c' d' e' f').2.1 + 21600000)) (azE a b c d e f).1 (azE a b c d e f).2.1 = true := by
          unfold insideB
          rw [i64w (by omega), i64w (by omega), v3, avalid_mk (by omega) (by omega) (by omega), decide_eq_true p3, decide_eq_true p4]
          rfl
        rw [w1]
        cases ((azE a b c d e f).1 == 0) && (((azE a b c d e f).2.1 == 21600000) && true) <;> cases insideB (azE a' b' c' d' e' f').1 (azE a' b' c' d' e' f').2.1 (azE a b c d e f).1 (azE a b c d e f).2.1 <;> rfl
      · have w1 : insideB (azE a' b' c' d' e' f').1 (azE a' b' c' d' e' f').2.1 (azE a b c d e f).1 (azE a b c d e f).2.1 = true := by
          unfold insideB
          rw [v3, v4, decide_eq_true p3, decide_eq_true p4]
          rfl
        rw [w1]
        cases ((azE a b c d e f).1 == 0) && (((azE a b c d e f).2.1 == 21600000) && true) <;> rfl
    rw [i1, i2]
    rfl
end Go.Proofs.Ytcoopclgfimahaa
