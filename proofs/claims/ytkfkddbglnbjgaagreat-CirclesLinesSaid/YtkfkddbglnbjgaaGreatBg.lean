/-
  The reference's Bearing is arctrig's.
-/
import Derived.Test.YtkfkddbglnbjgaaGreatF2
import Derived.Test.YtkfkddbglnbjgaaGreatSi
import Derived.Test.YtkfkddbglnbjgaaGreatT37
namespace Go.Proofs.YtkfkddbglnbjgaaGreat
open Ev

noncomputable def befE (a b c d : Int) : Bool :=
  (decide (IntKind.i64.wrap (a * d) > IntKind.i64.wrap (b * c)))
noncomputable def book_befE_gives : Book := []
theorem book_befE_gives_ok : BookOk Tryz.prog book_befE_gives := bookOk_nil
theorem befE_gives_tree (a b c d : Int) : evF Tryz.prog [] Cs book_befE_gives 20 6 86 ([.agg ⟨[.int .i64 a, .int .i64 b]⟩, .agg ⟨[.int .i64 c, .int .i64 d]⟩].map AV.v) [] [] last =
  some (.v (.bool (decide (IntKind.i64.wrap (a * d) > IntKind.i64.wrap (b * c))))) := by kernel_rfl
theorem befE_gives (a b c d : Int) : Gives Tryz.prog 86 [.agg ⟨[.int .i64 a, .int .i64 b]⟩, .agg ⟨[.int .i64 c, .int .i64 d]⟩] (.bool (befE a b c d)) := by
  refine evF_gives (E := []) mixed (by simp) Cs_ok book_befE_gives_ok (lim := 20) (d := 6) (nm := []) ?_
  rw [befE_gives_tree a b c d]
  rfl
noncomputable def orgE (a b c d : Int) : Bool :=
  cond (decide (a ≤ 0))
  (cond (decide (b ≥ 0))
   (cond (decide (c ≤ 0))
    ((decide (d ≥ 0)))
    (false))
   (false))
  (false)
noncomputable def book_orgE_gives : Book := []
theorem book_orgE_gives_ok : BookOk Tryz.prog book_orgE_gives := bookOk_nil
theorem orgE_gives_tree (a b c d : Int) : evF Tryz.prog [] Cs book_orgE_gives 20 6 85 ([.agg ⟨[.int .i64 a, .int .i64 b]⟩, .agg ⟨[.int .i64 c, .int .i64 d]⟩].map AV.v) [] [] last =
  cond (decide (a ≤ 0))
  (cond (decide (b ≥ 0))
   (cond (decide (c ≤ 0))
    (some (.v (.bool (decide (d ≥ 0)))))
    (some (.v (.bool false))))
   (some (.v (.bool false))))
  (some (.v (.bool false))) := by kernel_rfl
theorem orgE_gives (a b c d : Int) : Gives Tryz.prog 85 [.agg ⟨[.int .i64 a, .int .i64 b]⟩, .agg ⟨[.int .i64 c, .int .i64 d]⟩] (.bool (orgE a b c d)) := by
  refine evF_gives (E := []) mixed (by simp) Cs_ok book_orgE_gives_ok (lim := 20) (d := 6) (nm := []) ?_
  rw [orgE_gives_tree a b c d]
  unfold orgE
  refine case_cond (fun (r : Bool) => AV.v (.bool (r))) ?_ ?_
  · refine case_cond (fun (r : Bool) => AV.v (.bool (r))) ?_ ?_
    · refine case_cond (fun (r : Bool) => AV.v (.bool (r))) ?_ ?_
      · rfl
      · rfl
    · rfl
  · rfl
noncomputable def valE (a b : Int) : Bool :=
  cond (decide (a ≤ b))
  (cond (decide (a ≥ (-2147483648)))
   ((decide (b ≤ 2147483648)))
   (false))
  (false)
noncomputable def book_valE_gives : Book := []
theorem book_valE_gives_ok : BookOk Tryz.prog book_valE_gives := bookOk_nil
theorem valE_gives_tree (a b : Int) : evF Tryz.prog [] Cs book_valE_gives 20 6 78 ([.agg ⟨[.int .i64 a, .int .i64 b]⟩].map AV.v) [] [] last =
  cond (decide (a ≤ b))
  (cond (decide (a ≥ (-2147483648)))
   (some (.v (.bool (decide (b ≤ 2147483648)))))
   (some (.v (.bool false))))
  (some (.v (.bool false))) := by kernel_rfl
theorem valE_gives (a b : Int) : Gives Tryz.prog 78 [.agg ⟨[.int .i64 a, .int .i64 b]⟩] (.bool (valE a b)) := by
  refine evF_gives (E := []) mixed (by simp) Cs_ok book_valE_gives_ok (lim := 20) (d := 6) (nm := []) ?_
  rw [valE_gives_tree a b]
  unfold valE
  refine case_cond (fun (r : Bool) => AV.v (.bool (r))) ?_ ?_
  · refine case_cond (fun (r : Bool) => AV.v (.bool (r))) ?_ ?_
    · rfl
    · rfl
  · rfl
def ibV (r : Int × Bool) : Value := .tuple #[.int .i64 r.1, .bool r.2]
noncomputable def angE (x y : Int) : Int × Bool := (angF x y, excF x y)
def angPre (x y : Int) : Bool := decide ((-2147483648 ≤ x ∧ x ≤ 2147483648) ∧ (-2147483648 ≤ y ∧ y ≤ 2147483648) ∧ ¬ (x = 0 ∧ y = 0))
theorem rangle_gives (a b : Int) (h : angPre a b = true) : Gives Tryz.prog 87 [.agg ⟨[.int .i64 a, .int .i64 b]⟩] (ibV (angE a b)) := by
  have h' := of_decide_eq_true h
  exact fun w => rangle_any a b h'.1 h'.2.1 h'.2.2 w
noncomputable def bW (p q : Int × Int) : Bool := befE p.1 p.2 q.1 q.2
noncomputable def bgK (p q : Int × Int) : Option AV :=
  lt (angE p.1 p.2) fun x1 => cond (angPre p.1 p.2) (lt (angE q.1 q.2) fun x2 => cond (angPre q.1 q.2)
    (cond (!x2.2)
      (cond (decide (IntKind.i64.wrap (x2.1 + 1) < x1.1))
        (some (.v (.tuple ⟨[.agg ⟨[.int .i64 x1.1, .int .i64 (IntKind.i64.wrap ((IntKind.i64.wrap (x2.1 + 1)) + 21600000))]⟩, .int .i64 0]⟩)))
        (some (.v (.tuple ⟨[.agg ⟨[.int .i64 x1.1, .int .i64 (IntKind.i64.wrap (x2.1 + 1))]⟩, .int .i64 0]⟩))))
      (cond (decide (x2.1 < x1.1))
        (some (.v (.tuple ⟨[.agg ⟨[.int .i64 x1.1, .int .i64 (IntKind.i64.wrap (x2.1 + 21600000))]⟩, .int .i64 0]⟩)))
        (some (.v (.tuple ⟨[.agg ⟨[.int .i64 x1.1, .int .i64 x2.1]⟩, .int .i64 0]⟩)))))
    none) none
noncomputable def bg5 (c3 f l : Int × Int) : Option AV := cond (bW l c3) (bgK f c3) (bgK f l)
noncomputable def bg4 (c3 f l : Int × Int) : Option AV := cond (bW c3 f) (bg5 c3 c3 l) (bg5 c3 f l)
noncomputable def bg3 (c2 c3 f l : Int × Int) : Option AV := cond (bW l c2) (bg4 c3 f c2) (bg4 c3 f l)
noncomputable def bg2 (c2 c3 f l : Int × Int) : Option AV := cond (bW c2 f) (bg3 c2 c3 c2 l) (bg3 c2 c3 f l)
noncomputable def bg1 (c0 c1 c2 c3 f : Int × Int) : Option AV := cond (bW c0 c1) (bg2 c2 c3 f c1) (bg2 c2 c3 f c0)
noncomputable def bgS (c0 c1 c2 c3 : Int × Int) : Option AV := cond (bW c1 c0) (bg1 c0 c1 c2 c3 c1) (bg1 c0 c1 c2 c3 c0)
theorem bgS_eq {c0 c1 c2 c3 f2 l2 f3 l3 f4 l4 : Int × Int} (h1 : cond (bW c1 c0) c1 c0 = f2) (h2 : cond (bW c0 c1) c1 c0 = l2) (h3 : cond (bW c2 f2) c2 f2 = f3) (h4 : cond (bW l2 c2) c2 l2 = l3) (h5 : cond (bW c3 f3) c3 f3 = f4) (h6 : cond (bW l3 c3) c3 l3 = l4) : bgS c0 c1 c2 c3 = bgK f4 l4 := by
  have e1 : bgS c0 c1 c2 c3 = bg1 c0 c1 c2 c3 f2 := by rw [← h1]; unfold bgS; cases bW c1 c0 <;> rfl
  have e2 : bg1 c0 c1 c2 c3 f2 = bg2 c2 c3 f2 l2 := by rw [← h2]; unfold bg1; cases bW c0 c1 <;> rfl
  have e3 : bg2 c2 c3 f2 l2 = bg3 c2 c3 f3 l2 := by rw [← h3]; unfold bg2; cases bW c2 f2 <;> rfl
  have e4 : bg3 c2 c3 f3 l2 = bg4 c3 f3 l3 := by rw [← h4]; unfold bg3; cases bW l2 c2 <;> rfl
  have e5 : bg4 c3 f3 l3 = bg5 c3 f4 l3 := by rw [← h5]; unfold bg4; cases bW c3 f3 <;> rfl
  have e6 : bg5 c3 f4 l3 = bgK f4 l4 := by rw [← h6]; unfold bg5; cases bW l3 c3 <;> rfl
  rw [e1, e2, e3, e4, e5, e6]
def In32 (p : Int × Int) : Prop := (-2147483648 ≤ p.1 ∧ p.1 ≤ 2147483648) ∧ (-2147483648 ≤ p.2 ∧ p.2 ≤ 2147483648)
theorem bW_eq {p q : Int × Int} (hp : In32 p) (hq : In32 q) : bW p q = bS p q := by
  unfold bW befE bS bef
  have b1 := mul_bd hp.1 hq.2
  have b2 := mul_bd hp.2 hq.1
  rw [i64w (x := p.1 * q.2) (by omega), i64w (x := p.2 * q.1) (by omega), Int.mul_comm q.2, Int.mul_comm q.1]
  generalize p.1 * q.2 = A
  generalize p.2 * q.1 = C
  by_cases h : A ≤ C
  · rw [decide_eq_true h, decide_eq_false (by omega)]; rfl
  · rw [decide_eq_false h, decide_eq_true (by omega)]; rfl
theorem bgK_eq {p q : Int × Int} (hp : angPre p.1 p.2 = true) (hq : angPre q.1 q.2 = true) : bgK p q = some (.v (arcV (angF p.1 p.2, refUp (angF p.1 p.2) (angF q.1 q.2) (excF q.1 q.2), 0))) := by
  unfold bgK
  rw [lt, lt, hp, hq, cond_true, cond_true]
  unfold angE refUp
  dsimp only
  have b1 := angF_bd p.1 p.2
  have b2 := angF_bd q.1 q.2
  generalize angF p.1 p.2 = A at *
  generalize angF q.1 q.2 = C at *
  cases excF q.1 q.2
  · rw [Bool.not_false, cond_true, i64w (x := C + 1) (by omega), i64w (x := C + 1 + 21600000) (by omega)]
    by_cases h : C + 1 < A
    · rw [decide_eq_true h, cond_true]; simp [h, arcV, pairV]
    · rw [decide_eq_false h, cond_false]; simp [h, arcV, pairV]
  · rw [Bool.not_true, cond_false, i64w (x := C + 21600000) (by omega)]
    by_cases h : C < A
    · rw [decide_eq_true h, cond_true]; simp [h, arcV, pairV]
    · rw [decide_eq_false h, cond_false]; simp [h, arcV, pairV]
theorem valE_eq (a b : Int) : valE a b = validB a b := by
  unfold valE validB
  by_cases h1 : a ≤ b
  · by_cases h2 : a ≥ -2147483648
    · by_cases h3 : b ≤ 2147483648
      · rw [decide_eq_true h1, decide_eq_true h2, decide_eq_true h3, cond_true, cond_true]; exact (decide_eq_true ⟨h2, h1, h3⟩).symm
      · rw [decide_eq_true h1, decide_eq_true h2, decide_eq_false h3, cond_true, cond_true]; exact (decide_eq_false (by omega)).symm
    · rw [decide_eq_true h1, decide_eq_false h2, cond_true, cond_false]; exact (decide_eq_false (by omega)).symm
  · rw [decide_eq_false h1, cond_false]; exact (decide_eq_false (by omega)).symm
theorem orgE_eq (yl yh xl xh : Int) : orgE yl yh xl xh = originB yl yh xl xh := by
  unfold orgE originB
  by_cases h1 : yl ≤ 0
  · by_cases h2 : yh ≥ 0
    · by_cases h3 : xl ≤ 0
      · rw [decide_eq_true h1, decide_eq_true h2, decide_eq_true h3, cond_true, cond_true, cond_true]
        by_cases h4 : xh ≥ 0
        · rw [decide_eq_true h4]; exact (decide_eq_true ⟨h3, h4, h1, h2⟩).symm
        · rw [decide_eq_false h4]; exact (decide_eq_false (by omega)).symm
      · rw [decide_eq_true h1, decide_eq_true h2, decide_eq_false h3, cond_true, cond_true, cond_false]; exact (decide_eq_false (by omega)).symm
    · rw [decide_eq_true h1, decide_eq_false h2, cond_true, cond_false]; exact (decide_eq_false (by omega)).symm
  · rw [decide_eq_false h1, cond_false]; exact (decide_eq_false (by omega)).symm
theorem bgS_bear {yl yh xl xh : Int} (hx : validB xl xh = true) (hy : validB yl yh = true) (ho : originB yl yh xl xh = false) : bgS (xl, yl) (xl, yh) (xh, yl) (xh, yh) = some (.v (arcV (bearR yl yh xl xh))) := by
  have hx' := of_decide_eq_true hx
  have hy' := of_decide_eq_true hy
  have ho' := of_decide_eq_false ho
  have inn : ∀ p : Int × Int, ((p.1 = xl ∨ p.1 = xh) ∧ (p.2 = yl ∨ p.2 = yh)) → In32 p := fun p h => by unfold In32; omega
  have pre : ∀ p : Int × Int, ((p.1 = xl ∨ p.1 = xh) ∧ (p.2 = yl ∨ p.2 = yh)) → angPre p.1 p.2 = true := fun p h => decide_eq_true (by omega)
  have sf : ∀ j, cond (bW (cor yl yh xl xh j) (rfS yl yh xl xh j)) (cor yl yh xl xh j) (rfS yl yh xl xh j) = rfS yl yh xl xh (j + 1) := fun j => by
    rw [bW_eq (inn _ (cor_mem _ _ _ _ j)) (inn _ (rf_mem _ _ _ _ j))]; rfl
  have sl : ∀ j, cond (bW (rlS yl yh xl xh j) (cor yl yh xl xh j)) (cor yl yh xl xh j) (rlS yl yh xl xh j) = rlS yl yh xl xh (j + 1) := fun j => by
    rw [bW_eq (inn _ (rl_mem _ _ _ _ j)) (inn _ (cor_mem _ _ _ _ j))]; rfl
  have s1 := sf 1
  have t1 := sl 1
  rw [rf_one] at s1
  rw [rl_one] at t1
  have e : bgS (xl, yl) (xl, yh) (xh, yl) (xh, yh) = bgK (rfS yl yh xl xh 4) (rlS yl yh xl xh 4) := bgS_eq (c0 := (xl, yl)) (c1 := cor yl yh xl xh 1) (c2 := cor yl yh xl xh 2) (c3 := cor yl yh xl xh 3) (f2 := rfS yl yh xl xh 2) (l2 := rlS yl yh xl xh 2) (f3 := rfS yl yh xl xh 3) (l3 := rlS yl yh xl xh 3) (f4 := rfS yl yh xl xh 4) (l4 := rlS yl yh xl xh 4) s1 t1 (sf 2) (sl 2) (sf 3) (sl 3)
  rw [e, bgK_eq (pre _ (rf_mem _ _ _ _ 4)) (pre _ (rl_mem _ _ _ _ 4)), ← ref_bear hx hy ho]
  rfl
noncomputable def book_rbear : Book := [(78, eP (fun a b => .bool (valE a b))), (85, ePP (fun a b c d => .bool (orgE a b c d))), (86, ePP (fun a b c d => .bool (befE a b c d))), (87, ePif angPre (fun a b => ibV (angE a b)))]
theorem book_rbear_ok : BookOk Tryz.prog book_rbear := (bookOk_cons (eP_ok valE_gives) (bookOk_cons (ePP_ok orgE_gives) (bookOk_cons (ePP_ok befE_gives) (bookOk_cons (ePif_ok rangle_gives) bookOk_nil))))
theorem rbear_tree (a b c d : Int) : evF Tryz.prog [] Cs book_rbear 20 6 52 ([.agg ⟨[.int .i64 a, .int .i64 b]⟩, .agg ⟨[.int .i64 c, .int .i64 d]⟩].map AV.v) [] [] last =
  cond (!(valE a b))
  (some (.v (.tuple ⟨[.agg ⟨[.int .i64 0, .int .i64 0]⟩, .int .i64 1]⟩)))
  (cond (!(valE c d))
   (some (.v (.tuple ⟨[.agg ⟨[.int .i64 0, .int .i64 0]⟩, .int .i64 1]⟩)))
   (cond (orgE a b c d)
    (some (.v (.tuple ⟨[.agg ⟨[.int .i64 0, .int .i64 21600000]⟩, .int .i64 0]⟩)))
    (cond (befE c b c a)
     (cond (befE c a c b)
      (cond (befE d a c b)
       (cond (befE c b d a)
        (cond (befE d b d a)
         (cond (befE d a d b)
          (lt (angE d b) fun x1 =>
           cond (angPre d b)
           (lt (angE d b) fun x2 =>
            cond (angPre d b)
            (cond (!x2.2)
             (cond (decide (IntKind.i64.wrap (x2.1 + 1) < x1.1))
              (some (.v (.tuple ⟨[.agg ⟨[.int .i64 x1.1, .int .i64 (IntKind.i64.wrap ((IntKind.i64.wrap (x2.1 + 1)) + 21600000))]⟩, .int .i64 0]⟩)))
              (some (.v (.tuple ⟨[.agg ⟨[.int .i64 x1.1, .int .i64 (IntKind.i64.wrap (x2.1 + 1))]⟩, .int .i64 0]⟩))))
             (cond (decide (x2.1 < x1.1))
              (some (.v (.tuple ⟨[.agg ⟨[.int .i64 x1.1, .int .i64 (IntKind.i64.wrap (x2.1 + 21600000))]⟩, .int .i64 0]⟩)))
              (some (.v (.tuple ⟨[.agg ⟨[.int .i64 x1.1, .int .i64 x2.1]⟩, .int .i64 0]⟩)))))
            (none))
           (none))
          (lt (angE d b) fun x3 =>
           cond (angPre d b)
           (lt (angE d a) fun x4 =>
            cond (angPre d a)
            (cond (!x4.2)
             (cond (decide (IntKind.i64.wrap (x4.1 + 1) < x3.1))
              (some (.v (.tuple ⟨[.agg ⟨[.int .i64 x3.1, .int .i64 (IntKind.i64.wrap ((IntKind.i64.wrap (x4.1 + 1)) + 21600000))]⟩, .int .i64 0]⟩)))
              (some (.v (.tuple ⟨[.agg ⟨[.int .i64 x3.1, .int .i64 (IntKind.i64.wrap (x4.1 + 1))]⟩, .int .i64 0]⟩))))
             (cond (decide (x4.1 < x3.1))
              (some (.v (.tuple ⟨[.agg ⟨[.int .i64 x3.1, .int .i64 (IntKind.i64.wrap (x4.1 + 21600000))]⟩, .int .i64 0]⟩)))
              (some (.v (.tuple ⟨[.agg ⟨[.int .i64 x3.1, .int .i64 x4.1]⟩, .int .i64 0]⟩)))))
            (none))
           (none)))
         (cond (befE d a d b)
          (lt (angE d a) fun x5 =>
           cond (angPre d a)
           (lt (angE d b) fun x6 =>
            cond (angPre d b)
            (cond (!x6.2)
             (cond (decide (IntKind.i64.wrap (x6.1 + 1) < x5.1))
              (some (.v (.tuple ⟨[.agg ⟨[.int .i64 x5.1, .int .i64 (IntKind.i64.wrap ((IntKind.i64.wrap (x6.1 + 1)) + 21600000))]⟩, .int .i64 0]⟩)))
              (some (.v (.tuple ⟨[.agg ⟨[.int .i64 x5.1, .int .i64 (IntKind.i64.wrap (x6.1 + 1))]⟩, .int .i64 0]⟩))))
             (cond (decide (x6.1 < x5.1))
              (some (.v (.tuple ⟨[.agg ⟨[.int .i64 x5.1, .int .i64 (IntKind.i64.wrap (x6.1 + 21600000))]⟩, .int .i64 0]⟩)))
              (some (.v (.tuple ⟨[.agg ⟨[.int .i64 x5.1, .int .i64 x6.1]⟩, .int .i64 0]⟩)))))
            (none))
           (none))
          (lt (angE d a) fun x7 =>
           cond (angPre d a)
           (lt (angE d a) fun x8 =>
            cond (angPre d a)
            (cond (!x8.2)
             (cond (decide (IntKind.i64.wrap (x8.1 + 1) < x7.1))
              (some (.v (.tuple ⟨[.agg ⟨[.int .i64 x7.1, .int .i64 (IntKind.i64.wrap ((IntKind.i64.wrap (x8.1 + 1)) + 21600000))]⟩, .int .i64 0]⟩)))
              (some (.v (.tuple ⟨[.agg ⟨[.int .i64 x7.1, .int .i64 (IntKind.i64.wrap (x8.1 + 1))]⟩, .int .i64 0]⟩))))
             (cond (decide (x8.1 < x7.1))
              (some (.v (.tuple ⟨[.agg ⟨[.int .i64 x7.1, .int .i64 (IntKind.i64.wrap (x8.1 + 21600000))]⟩, .int .i64 0]⟩)))
              (some (.v (.tuple ⟨[.agg ⟨[.int .i64 x7.1, .int .i64 x8.1]⟩, .int .i64 0]⟩)))))
            (none))
           (none))))
        (cond (befE d b d a)
         (cond (befE c b d b)
          (lt (angE d b) fun x9 =>
           cond (angPre d b)
           (lt (angE d b) fun x10 =>
            cond (angPre d b)
            (cond (!x10.2)
             (cond (decide (IntKind.i64.wrap (x10.1 + 1) < x9.1))
              (some (.v (.tuple ⟨[.agg ⟨[.int .i64 x9.1, .int .i64 (IntKind.i64.wrap ((IntKind.i64.wrap (x10.1 + 1)) + 21600000))]⟩, .int .i64 0]⟩)))
              (some (.v (.tuple ⟨[.agg ⟨[.int .i64 x9.1, .int .i64 (IntKind.i64.wrap (x10.1 + 1))]⟩, .int .i64 0]⟩))))
             (cond (decide (x10.1 < x9.1))
              (some (.v (.tuple ⟨[.agg ⟨[.int .i64 x9.1, .int .i64 (IntKind.i64.wrap (x10.1 + 21600000))]⟩, .int .i64 0]⟩)))
              (some (.v (.tuple ⟨[.agg ⟨[.int .i64 x9.1, .int .i64 x10.1]⟩, .int .i64 0]⟩)))))
            (none))
           (none))
          (lt (angE d b) fun x11 =>
           cond (angPre d b)
           (lt (angE c b) fun x12 =>
            cond (angPre c b)
            (cond (!x12.2)
             (cond (decide (IntKind.i64.wrap (x12.1 + 1) < x11.1))
              (some (.v (.tuple ⟨[.agg ⟨[.int .i64 x11.1, .int .i64 (IntKind.i64.wrap ((IntKind.i64.wrap (x12.1 + 1)) + 21600000))]⟩, .int .i64 0]⟩)))
              (some (.v (.tuple ⟨[.agg ⟨[.int .i64 x11.1, .int .i64 (IntKind.i64.wrap (x12.1 + 1))]⟩, .int .i64 0]⟩))))
             (cond (decide (x12.1 < x11.1))
              (some (.v (.tuple ⟨[.agg ⟨[.int .i64 x11.1, .int .i64 (IntKind.i64.wrap (x12.1 + 21600000))]⟩, .int .i64 0]⟩)))
              (some (.v (.tuple ⟨[.agg ⟨[.int .i64 x11.1, .int .i64 x12.1]⟩, .int .i64 0]⟩)))))
            (none))
           (none)))
         (cond (befE c b d b)
          (lt (angE d a) fun x13 =>
           cond (angPre d a)
           (lt (angE d b) fun x14 =>
            cond (angPre d b)
            (cond (!x14.2)
             (cond (decide (IntKind.i64.wrap (x14.1 + 1) < x13.1))
              (some (.v (.tuple ⟨[.agg ⟨[.int .i64 x13.1, .int .i64 (IntKind.i64.wrap ((IntKind.i64.wrap (x14.1 + 1)) + 21600000))]⟩, .int .i64 0]⟩)))
              (some (.v (.tuple ⟨[.agg ⟨[.int .i64 x13.1, .int .i64 (IntKind.i64.wrap (x14.1 + 1))]⟩, .int .i64 0]⟩))))
             (cond (decide (x14.1 < x13.1))
              (some (.v (.tuple ⟨[.agg ⟨[.int .i64 x13.1, .int .i64 (IntKind.i64.wrap (x14.1 + 21600000))]⟩, .int .i64 0]⟩)))
              (some (.v (.tuple ⟨[.agg ⟨[.int .i64 x13.1, .int .i64 x14.1]⟩, .int .i64 0]⟩)))))
            (none))
           (none))
          (lt (angE d a) fun x15 =>
           cond (angPre d a)
           (lt (angE c b) fun x16 =>
            cond (angPre c b)
            (cond (!x16.2)
             (cond (decide (IntKind.i64.wrap (x16.1 + 1) < x15.1))
              (some (.v (.tuple ⟨[.agg ⟨[.int .i64 x15.1, .int .i64 (IntKind.i64.wrap ((IntKind.i64.wrap (x16.1 + 1)) + 21600000))]⟩, .int .i64 0]⟩)))
              (some (.v (.tuple ⟨[.agg ⟨[.int .i64 x15.1, .int .i64 (IntKind.i64.wrap (x16.1 + 1))]⟩, .int .i64 0]⟩))))
             (cond (decide (x16.1 < x15.1))
              (some (.v (.tuple ⟨[.agg ⟨[.int .i64 x15.1, .int .i64 (IntKind.i64.wrap (x16.1 + 21600000))]⟩, .int .i64 0]⟩)))
              (some (.v (.tuple ⟨[.agg ⟨[.int .i64 x15.1, .int .i64 x16.1]⟩, .int .i64 0]⟩)))))
            (none))
           (none)))))
       (cond (befE c b d a)
        (cond (befE d b c b)
         (cond (befE d a d b)
          (lt (angE d b) fun x17 =>
           cond (angPre d b)
           (lt (angE d b) fun x18 =>
            cond (angPre d b)
            (cond (!x18.2)
             (cond (decide (IntKind.i64.wrap (x18.1 + 1) < x17.1))
              (some (.v (.tuple ⟨[.agg ⟨[.int .i64 x17.1, .int .i64 (IntKind.i64.wrap ((IntKind.i64.wrap (x18.1 + 1)) + 21600000))]⟩, .int .i64 0]⟩)))
              (some (.v (.tuple ⟨[.agg ⟨[.int .i64 x17.1, .int .i64 (IntKind.i64.wrap (x18.1 + 1))]⟩, .int .i64 0]⟩))))
             (cond (decide (x18.1 < x17.1))
              (some (.v (.tuple ⟨[.agg ⟨[.int .i64 x17.1, .int .i64 (IntKind.i64.wrap (x18.1 + 21600000))]⟩, .int .i64 0]⟩)))
              (some (.v (.tuple ⟨[.agg ⟨[.int .i64 x17.1, .int .i64 x18.1]⟩, .int .i64 0]⟩)))))
            (none))
           (none))
          (lt (angE d b) fun x19 =>
           cond (angPre d b)
           (lt (angE d a) fun x20 =>
            cond (angPre d a)
            (cond (!x20.2)
             (cond (decide (IntKind.i64.wrap (x20.1 + 1) < x19.1))
              (some (.v (.tuple ⟨[.agg ⟨[.int .i64 x19.1, .int .i64 (IntKind.i64.wrap ((IntKind.i64.wrap (x20.1 + 1)) + 21600000))]⟩, .int .i64 0]⟩)))
              (some (.v (.tuple ⟨[.agg ⟨[.int .i64 x19.1, .int .i64 (IntKind.i64.wrap (x20.1 + 1))]⟩, .int .i64 0]⟩))))
             (cond (decide (x20.1 < x19.1))
              (some (.v (.tuple ⟨[.agg ⟨[.int .i64 x19.1, .int .i64 (IntKind.i64.wrap (x20.1 + 21600000))]⟩, .int .i64 0]⟩)))
              (some (.v (.tuple ⟨[.agg ⟨[.int .i64 x19.1, .int .i64 x20.1]⟩, .int .i64 0]⟩)))))
            (none))
           (none)))
         (cond (befE d a d b)
          (lt (angE c b) fun x21 =>
           cond (angPre c b)
           (lt (angE d b) fun x22 =>
            cond (angPre d b)
            (cond (!x22.2)
             (cond (decide (IntKind.i64.wrap (x22.1 + 1) < x21.1))
              (some (.v (.tuple ⟨[.agg ⟨[.int .i64 x21.1, .int .i64 (IntKind.i64.wrap ((IntKind.i64.wrap (x22.1 + 1)) + 21600000))]⟩, .int .i64 0]⟩)))
              (some (.v (.tuple ⟨[.agg ⟨[.int .i64 x21.1, .int .i64 (IntKind.i64.wrap (x22.1 + 1))]⟩, .int .i64 0]⟩))))
             (cond (decide (x22.1 < x21.1))
              (some (.v (.tuple ⟨[.agg ⟨[.int .i64 x21.1, .int .i64 (IntKind.i64.wrap (x22.1 + 21600000))]⟩, .int .i64 0]⟩)))
              (some (.v (.tuple ⟨[.agg ⟨[.int .i64 x21.1, .int .i64 x22.1]⟩, .int .i64 0]⟩)))))
            (none))
           (none))
          (lt (angE c b) fun x23 =>
           cond (angPre c b)
           (lt (angE d a) fun x24 =>
            cond (angPre d a)
            (cond (!x24.2)
             (cond (decide (IntKind.i64.wrap (x24.1 + 1) < x23.1))
              (some (.v (.tuple ⟨[.agg ⟨[.int .i64 x23.1, .int .i64 (IntKind.i64.wrap ((IntKind.i64.wrap (x24.1 + 1)) + 21600000))]⟩, .int .i64 0]⟩)))
              (some (.v (.tuple ⟨[.agg ⟨[.int .i64 x23.1, .int .i64 (IntKind.i64.wrap (x24.1 + 1))]⟩, .int .i64 0]⟩))))
             (cond (decide (x24.1 < x23.1))
              (some (.v (.tuple ⟨[.agg ⟨[.int .i64 x23.1, .int .i64 (IntKind.i64.wrap (x24.1 + 21600000))]⟩, .int .i64 0]⟩)))
              (some (.v (.tuple ⟨[.agg ⟨[.int .i64 x23.1, .int .i64 x24.1]⟩, .int .i64 0]⟩)))))
            (none))
           (none))))
        (cond (befE d b c b)
         (cond (befE c b d b)
          (lt (angE d b) fun x25 =>
           cond (angPre d b)
           (lt (angE d b) fun x26 =>
            cond (angPre d b)
            (cond (!x26.2)
             (cond (decide (IntKind.i64.wrap (x26.1 + 1) < x25.1))
              (some (.v (.tuple ⟨[.agg ⟨[.int .i64 x25.1, .int .i64 (IntKind.i64.wrap ((IntKind.i64.wrap (x26.1 + 1)) + 21600000))]⟩, .int .i64 0]⟩)))
              (some (.v (.tuple ⟨[.agg ⟨[.int .i64 x25.1, .int .i64 (IntKind.i64.wrap (x26.1 + 1))]⟩, .int .i64 0]⟩))))
             (cond (decide (x26.1 < x25.1))
              (some (.v (.tuple ⟨[.agg ⟨[.int .i64 x25.1, .int .i64 (IntKind.i64.wrap (x26.1 + 21600000))]⟩, .int .i64 0]⟩)))
              (some (.v (.tuple ⟨[.agg ⟨[.int .i64 x25.1, .int .i64 x26.1]⟩, .int .i64 0]⟩)))))
            (none))
           (none))
          (lt (angE d b) fun x27 =>
           cond (angPre d b)
           (lt (angE c b) fun x28 =>
            cond (angPre c b)
            (cond (!x28.2)
             (cond (decide (IntKind.i64.wrap (x28.1 + 1) < x27.1))
              (some (.v (.tuple ⟨[.agg ⟨[.int .i64 x27.1, .int .i64 (IntKind.i64.wrap ((IntKind.i64.wrap (x28.1 + 1)) + 21600000))]⟩, .int .i64 0]⟩)))
              (some (.v (.tuple ⟨[.agg ⟨[.int .i64 x27.1, .int .i64 (IntKind.i64.wrap (x28.1 + 1))]⟩, .int .i64 0]⟩))))
             (cond (decide (x28.1 < x27.1))
              (some (.v (.tuple ⟨[.agg ⟨[.int .i64 x27.1, .int .i64 (IntKind.i64.wrap (x28.1 + 21600000))]⟩, .int .i64 0]⟩)))
              (some (.v (.tuple ⟨[.agg ⟨[.int .i64 x27.1, .int .i64 x28.1]⟩, .int .i64 0]⟩)))))
            (none))
           (none)))
         (cond (befE c b d b)
          (lt (angE c b) fun x29 =>
           cond (angPre c b)
           (lt (angE d b) fun x30 =>
            cond (angPre d b)
            (cond (!x30.2)
             (cond (decide (IntKind.i64.wrap (x30.1 + 1) < x29.1))
              (some (.v (.tuple ⟨[.agg ⟨[.int .i64 x29.1, .int .i64 (IntKind.i64.wrap ((IntKind.i64.wrap (x30.1 + 1)) + 21600000))]⟩, .int .i64 0]⟩)))
              (some (.v (.tuple ⟨[.agg ⟨[.int .i64 x29.1, .int .i64 (IntKind.i64.wrap (x30.1 + 1))]⟩, .int .i64 0]⟩))))
             (cond (decide (x30.1 < x29.1))
              (some (.v (.tuple ⟨[.agg ⟨[.int .i64 x29.1, .int .i64 (IntKind.i64.wrap (x30.1 + 21600000))]⟩, .int .i64 0]⟩)))
              (some (.v (.tuple ⟨[.agg ⟨[.int .i64 x29.1, .int .i64 x30.1]⟩, .int .i64 0]⟩)))))
            (none))
           (none))
          (lt (angE c b) fun x31 =>
           cond (angPre c b)
           (lt (angE c b) fun x32 =>
            cond (angPre c b)
            (cond (!x32.2)
             (cond (decide (IntKind.i64.wrap (x32.1 + 1) < x31.1))
              (some (.v (.tuple ⟨[.agg ⟨[.int .i64 x31.1, .int .i64 (IntKind.i64.wrap ((IntKind.i64.wrap (x32.1 + 1)) + 21600000))]⟩, .int .i64 0]⟩)))
              (some (.v (.tuple ⟨[.agg ⟨[.int .i64 x31.1, .int .i64 (IntKind.i64.wrap (x32.1 + 1))]⟩, .int .i64 0]⟩))))
             (cond (decide (x32.1 < x31.1))
              (some (.v (.tuple ⟨[.agg ⟨[.int .i64 x31.1, .int .i64 (IntKind.i64.wrap (x32.1 + 21600000))]⟩, .int .i64 0]⟩)))
              (some (.v (.tuple ⟨[.agg ⟨[.int .i64 x31.1, .int .i64 x32.1]⟩, .int .i64 0]⟩)))))
            (none))
           (none))))))
      (cond (befE d a c b)
       (cond (befE c a d a)
        (cond (befE d b d a)
         (cond (befE d a d b)
          (lt (angE d b) fun x33 =>
           cond (angPre d b)
           (lt (angE d b) fun x34 =>
            cond (angPre d b)
            (cond (!x34.2)
             (cond (decide (IntKind.i64.wrap (x34.1 + 1) < x33.1))
              (some (.v (.tuple ⟨[.agg ⟨[.int .i64 x33.1, .int .i64 (IntKind.i64.wrap ((IntKind.i64.wrap (x34.1 + 1)) + 21600000))]⟩, .int .i64 0]⟩)))
              (some (.v (.tuple ⟨[.agg ⟨[.int .i64 x33.1, .int .i64 (IntKind.i64.wrap (x34.1 + 1))]⟩, .int .i64 0]⟩))))
             (cond (decide (x34.1 < x33.1))
              (some (.v (.tuple ⟨[.agg ⟨[.int .i64 x33.1, .int .i64 (IntKind.i64.wrap (x34.1 + 21600000))]⟩, .int .i64 0]⟩)))
              (some (.v (.tuple ⟨[.agg ⟨[.int .i64 x33.1, .int .i64 x34.1]⟩, .int .i64 0]⟩)))))
            (none))
           (none))
          (lt (angE d b) fun x35 =>
           cond (angPre d b)
           (lt (angE d a) fun x36 =>
            cond (angPre d a)
            (cond (!x36.2)
             (cond (decide (IntKind.i64.wrap (x36.1 + 1) < x35.1))
              (some (.v (.tuple ⟨[.agg ⟨[.int .i64 x35.1, .int .i64 (IntKind.i64.wrap ((IntKind.i64.wrap (x36.1 + 1)) + 21600000))]⟩, .int .i64 0]⟩)))
              (some (.v (.tuple ⟨[.agg ⟨[.int .i64 x35.1, .int .i64 (IntKind.i64.wrap (x36.1 + 1))]⟩, .int .i64 0]⟩))))
             (cond (decide (x36.1 < x35.1))
              (some (.v (.tuple ⟨[.agg ⟨[.int .i64 x35.1, .int .i64 (IntKind.i64.wrap (x36.1 + 21600000))]⟩, .int .i64 0]⟩)))
              (some (.v (.tuple ⟨[.agg ⟨[.int .i64 x35.1, .int .i64 x36.1]⟩, .int .i64 0]⟩)))))
            (none))
           (none)))
         (cond (befE d a d b)
          (lt (angE d a) fun x37 =>
           cond (angPre d a)
           (lt (angE d b) fun x38 =>
            cond (angPre d b)
            (cond (!x38.2)
             (cond (decide (IntKind.i64.wrap (x38.1 + 1) < x37.1))
              (some (.v (.tuple ⟨[.agg ⟨[.int .i64 x37.1, .int .i64 (IntKind.i64.wrap ((IntKind.i64.wrap (x38.1 + 1)) + 21600000))]⟩, .int .i64 0]⟩)))
              (some (.v (.tuple ⟨[.agg ⟨[.int .i64 x37.1, .int .i64 (IntKind.i64.wrap (x38.1 + 1))]⟩, .int .i64 0]⟩))))
             (cond (decide (x38.1 < x37.1))
              (some (.v (.tuple ⟨[.agg ⟨[.int .i64 x37.1, .int .i64 (IntKind.i64.wrap (x38.1 + 21600000))]⟩, .int .i64 0]⟩)))
              (some (.v (.tuple ⟨[.agg ⟨[.int .i64 x37.1, .int .i64 x38.1]⟩, .int .i64 0]⟩)))))
            (none))
           (none))
          (lt (angE d a) fun x39 =>
           cond (angPre d a)
           (lt (angE d a) fun x40 =>
            cond (angPre d a)
            (cond (!x40.2)
             (cond (decide (IntKind.i64.wrap (x40.1 + 1) < x39.1))
              (some (.v (.tuple ⟨[.agg ⟨[.int .i64 x39.1, .int .i64 (IntKind.i64.wrap ((IntKind.i64.wrap (x40.1 + 1)) + 21600000))]⟩, .int .i64 0]⟩)))
              (some (.v (.tuple ⟨[.agg ⟨[.int .i64 x39.1, .int .i64 (IntKind.i64.wrap (x40.1 + 1))]⟩, .int .i64 0]⟩))))
             (cond (decide (x40.1 < x39.1))
              (some (.v (.tuple ⟨[.agg ⟨[.int .i64 x39.1, .int .i64 (IntKind.i64.wrap (x40.1 + 21600000))]⟩, .int .i64 0]⟩)))
              (some (.v (.tuple ⟨[.agg ⟨[.int .i64 x39.1, .int .i64 x40.1]⟩, .int .i64 0]⟩)))))
            (none))
           (none))))
        (cond (befE d b d a)
         (cond (befE c a d b)
          (lt (angE d b) fun x41 =>
           cond (angPre d b)
           (lt (angE d b) fun x42 =>
            cond (angPre d b)
            (cond (!x42.2)
             (cond (decide (IntKind.i64.wrap (x42.1 + 1) < x41.1))
              (some (.v (.tuple ⟨[.agg ⟨[.int .i64 x41.1, .int .i64 (IntKind.i64.wrap ((IntKind.i64.wrap (x42.1 + 1)) + 21600000))]⟩, .int .i64 0]⟩)))
              (some (.v (.tuple ⟨[.agg ⟨[.int .i64 x41.1, .int .i64 (IntKind.i64.wrap (x42.1 + 1))]⟩, .int .i64 0]⟩))))
             (cond (decide (x42.1 < x41.1))
              (some (.v (.tuple ⟨[.agg ⟨[.int .i64 x41.1, .int .i64 (IntKind.i64.wrap (x42.1 + 21600000))]⟩, .int .i64 0]⟩)))
              (some (.v (.tuple ⟨[.agg ⟨[.int .i64 x41.1, .int .i64 x42.1]⟩, .int .i64 0]⟩)))))
            (none))
           (none))
          (lt (angE d b) fun x43 =>
           cond (angPre d b)
           (lt (angE c a) fun x44 =>
            cond (angPre c a)
            (cond (!x44.2)
             (cond (decide (IntKind.i64.wrap (x44.1 + 1) < x43.1))
              (some (.v (.tuple ⟨[.agg ⟨[.int .i64 x43.1, .int .i64 (IntKind.i64.wrap ((IntKind.i64.wrap (x44.1 + 1)) + 21600000))]⟩, .int .i64 0]⟩)))
              (some (.v (.tuple ⟨[.agg ⟨[.int .i64 x43.1, .int .i64 (IntKind.i64.wrap (x44.1 + 1))]⟩, .int .i64 0]⟩))))
             (cond (decide (x44.1 < x43.1))
              (some (.v (.tuple ⟨[.agg ⟨[.int .i64 x43.1, .int .i64 (IntKind.i64.wrap (x44.1 + 21600000))]⟩, .int .i64 0]⟩)))
              (some (.v (.tuple ⟨[.agg ⟨[.int .i64 x43.1, .int .i64 x44.1]⟩, .int .i64 0]⟩)))))
            (none))
           (none)))
         (cond (befE c a d b)
          (lt (angE d a) fun x45 =>
           cond (angPre d a)
           (lt (angE d b) fun x46 =>
            cond (angPre d b)
            (cond (!x46.2)
             (cond (decide (IntKind.i64.wrap (x46.1 + 1) < x45.1))
              (some (.v (.tuple ⟨[.agg ⟨[.int .i64 x45.1, .int .i64 (IntKind.i64.wrap ((IntKind.i64.wrap (x46.1 + 1)) + 21600000))]⟩, .int .i64 0]⟩)))
              (some (.v (.tuple ⟨[.agg ⟨[.int .i64 x45.1, .int .i64 (IntKind.i64.wrap (x46.1 + 1))]⟩, .int .i64 0]⟩))))
             (cond (decide (x46.1 < x45.1))
              (some (.v (.tuple ⟨[.agg ⟨[.int .i64 x45.1, .int .i64 (IntKind.i64.wrap (x46.1 + 21600000))]⟩, .int .i64 0]⟩)))
              (some (.v (.tuple ⟨[.agg ⟨[.int .i64 x45.1, .int .i64 x46.1]⟩, .int .i64 0]⟩)))))
            (none))
           (none))
          (lt (angE d a) fun x47 =>
           cond (angPre d a)
           (lt (angE c a) fun x48 =>
            cond (angPre c a)
            (cond (!x48.2)
             (cond (decide (IntKind.i64.wrap (x48.1 + 1) < x47.1))
              (some (.v (.tuple ⟨[.agg ⟨[.int .i64 x47.1, .int .i64 (IntKind.i64.wrap ((IntKind.i64.wrap (x48.1 + 1)) + 21600000))]⟩, .int .i64 0]⟩)))
              (some (.v (.tuple ⟨[.agg ⟨[.int .i64 x47.1, .int .i64 (IntKind.i64.wrap (x48.1 + 1))]⟩, .int .i64 0]⟩))))
             (cond (decide (x48.1 < x47.1))
              (some (.v (.tuple ⟨[.agg ⟨[.int .i64 x47.1, .int .i64 (IntKind.i64.wrap (x48.1 + 21600000))]⟩, .int .i64 0]⟩)))
              (some (.v (.tuple ⟨[.agg ⟨[.int .i64 x47.1, .int .i64 x48.1]⟩, .int .i64 0]⟩)))))
            (none))
           (none)))))
       (cond (befE c a d a)
        (cond (befE d b c b)
         (cond (befE d a d b)
          (lt (angE d b) fun x49 =>
           cond (angPre d b)
           (lt (angE d b) fun x50 =>
            cond (angPre d b)
            (cond (!x50.2)
             (cond (decide (IntKind.i64.wrap (x50.1 + 1) < x49.1))
              (some (.v (.tuple ⟨[.agg ⟨[.int .i64 x49.1, .int .i64 (IntKind.i64.wrap ((IntKind.i64.wrap (x50.1 + 1)) + 21600000))]⟩, .int .i64 0]⟩)))
              (some (.v (.tuple ⟨[.agg ⟨[.int .i64 x49.1, .int .i64 (IntKind.i64.wrap (x50.1 + 1))]⟩, .int .i64 0]⟩))))
             (cond (decide (x50.1 < x49.1))
              (some (.v (.tuple ⟨[.agg ⟨[.int .i64 x49.1, .int .i64 (IntKind.i64.wrap (x50.1 + 21600000))]⟩, .int .i64 0]⟩)))
              (some (.v (.tuple ⟨[.agg ⟨[.int .i64 x49.1, .int .i64 x50.1]⟩, .int .i64 0]⟩)))))
            (none))
           (none))
          (lt (angE d b) fun x51 =>
           cond (angPre d b)
           (lt (angE d a) fun x52 =>
            cond (angPre d a)
            (cond (!x52.2)
             (cond (decide (IntKind.i64.wrap (x52.1 + 1) < x51.1))
              (some (.v (.tuple ⟨[.agg ⟨[.int .i64 x51.1, .int .i64 (IntKind.i64.wrap ((IntKind.i64.wrap (x52.1 + 1)) + 21600000))]⟩, .int .i64 0]⟩)))
              (some (.v (.tuple ⟨[.agg ⟨[.int .i64 x51.1, .int .i64 (IntKind.i64.wrap (x52.1 + 1))]⟩, .int .i64 0]⟩))))
             (cond (decide (x52.1 < x51.1))
              (some (.v (.tuple ⟨[.agg ⟨[.int .i64 x51.1, .int .i64 (IntKind.i64.wrap (x52.1 + 21600000))]⟩, .int .i64 0]⟩)))
              (some (.v (.tuple ⟨[.agg ⟨[.int .i64 x51.1, .int .i64 x52.1]⟩, .int .i64 0]⟩)))))
            (none))
           (none)))
         (cond (befE d a d b)
          (lt (angE c b) fun x53 =>
           cond (angPre c b)
           (lt (angE d b) fun x54 =>
            cond (angPre d b)
            (cond (!x54.2)
             (cond (decide (IntKind.i64.wrap (x54.1 + 1) < x53.1))
              (some (.v (.tuple ⟨[.agg ⟨[.int .i64 x53.1, .int .i64 (IntKind.i64.wrap ((IntKind.i64.wrap (x54.1 + 1)) + 21600000))]⟩, .int .i64 0]⟩)))
              (some (.v (.tuple ⟨[.agg ⟨[.int .i64 x53.1, .int .i64 (IntKind.i64.wrap (x54.1 + 1))]⟩, .int .i64 0]⟩))))
             (cond (decide (x54.1 < x53.1))
              (some (.v (.tuple ⟨[.agg ⟨[.int .i64 x53.1, .int .i64 (IntKind.i64.wrap (x54.1 + 21600000))]⟩, .int .i64 0]⟩)))
              (some (.v (.tuple ⟨[.agg ⟨[.int .i64 x53.1, .int .i64 x54.1]⟩, .int .i64 0]⟩)))))
            (none))
           (none))
          (lt (angE c b) fun x55 =>
           cond (angPre c b)
           (lt (angE d a) fun x56 =>
            cond (angPre d a)
            (cond (!x56.2)
             (cond (decide (IntKind.i64.wrap (x56.1 + 1) < x55.1))
              (some (.v (.tuple ⟨[.agg ⟨[.int .i64 x55.1, .int .i64 (IntKind.i64.wrap ((IntKind.i64.wrap (x56.1 + 1)) + 21600000))]⟩, .int .i64 0]⟩)))
              (some (.v (.tuple ⟨[.agg ⟨[.int .i64 x55.1, .int .i64 (IntKind.i64.wrap (x56.1 + 1))]⟩, .int .i64 0]⟩))))
             (cond (decide (x56.1 < x55.1))
              (some (.v (.tuple ⟨[.agg ⟨[.int .i64 x55.1, .int .i64 (IntKind.i64.wrap (x56.1 + 21600000))]⟩, .int .i64 0]⟩)))
              (some (.v (.tuple ⟨[.agg ⟨[.int .i64 x55.1, .int .i64 x56.1]⟩, .int .i64 0]⟩)))))
            (none))
           (none))))
        (cond (befE d b c b)
         (cond (befE c a d b)
          (lt (angE d b) fun x57 =>
           cond (angPre d b)
           (lt (angE d b) fun x58 =>
            cond (angPre d b)
            (cond (!x58.2)
             (cond (decide (IntKind.i64.wrap (x58.1 + 1) < x57.1))
              (some (.v (.tuple ⟨[.agg ⟨[.int .i64 x57.1, .int .i64 (IntKind.i64.wrap ((IntKind.i64.wrap (x58.1 + 1)) + 21600000))]⟩, .int .i64 0]⟩)))
              (some (.v (.tuple ⟨[.agg ⟨[.int .i64 x57.1, .int .i64 (IntKind.i64.wrap (x58.1 + 1))]⟩, .int .i64 0]⟩))))
             (cond (decide (x58.1 < x57.1))
              (some (.v (.tuple ⟨[.agg ⟨[.int .i64 x57.1, .int .i64 (IntKind.i64.wrap (x58.1 + 21600000))]⟩, .int .i64 0]⟩)))
              (some (.v (.tuple ⟨[.agg ⟨[.int .i64 x57.1, .int .i64 x58.1]⟩, .int .i64 0]⟩)))))
            (none))
           (none))
          (lt (angE d b) fun x59 =>
           cond (angPre d b)
           (lt (angE c a) fun x60 =>
            cond (angPre c a)
            (cond (!x60.2)
             (cond (decide (IntKind.i64.wrap (x60.1 + 1) < x59.1))
              (some (.v (.tuple ⟨[.agg ⟨[.int .i64 x59.1, .int .i64 (IntKind.i64.wrap ((IntKind.i64.wrap (x60.1 + 1)) + 21600000))]⟩, .int .i64 0]⟩)))
              (some (.v (.tuple ⟨[.agg ⟨[.int .i64 x59.1, .int .i64 (IntKind.i64.wrap (x60.1 + 1))]⟩, .int .i64 0]⟩))))
             (cond (decide (x60.1 < x59.1))
              (some (.v (.tuple ⟨[.agg ⟨[.int .i64 x59.1, .int .i64 (IntKind.i64.wrap (x60.1 + 21600000))]⟩, .int .i64 0]⟩)))
              (some (.v (.tuple ⟨[.agg ⟨[.int .i64 x59.1, .int .i64 x60.1]⟩, .int .i64 0]⟩)))))
            (none))
           (none)))
         (cond (befE c a d b)
          (lt (angE c b) fun x61 =>
           cond (angPre c b)
           (lt (angE d b) fun x62 =>
            cond (angPre d b)
            (cond (!x62.2)
             (cond (decide (IntKind.i64.wrap (x62.1 + 1) < x61.1))
              (some (.v (.tuple ⟨[.agg ⟨[.int .i64 x61.1, .int .i64 (IntKind.i64.wrap ((IntKind.i64.wrap (x62.1 + 1)) + 21600000))]⟩, .int .i64 0]⟩)))
              (some (.v (.tuple ⟨[.agg ⟨[.int .i64 x61.1, .int .i64 (IntKind.i64.wrap (x62.1 + 1))]⟩, .int .i64 0]⟩))))
             (cond (decide (x62.1 < x61.1))
              (some (.v (.tuple ⟨[.agg ⟨[.int .i64 x61.1, .int .i64 (IntKind.i64.wrap (x62.1 + 21600000))]⟩, .int .i64 0]⟩)))
              (some (.v (.tuple ⟨[.agg ⟨[.int .i64 x61.1, .int .i64 x62.1]⟩, .int .i64 0]⟩)))))
            (none))
           (none))
          (lt (angE c b) fun x63 =>
           cond (angPre c b)
           (lt (angE c a) fun x64 =>
            cond (angPre c a)
            (cond (!x64.2)
             (cond (decide (IntKind.i64.wrap (x64.1 + 1) < x63.1))
              (some (.v (.tuple ⟨[.agg ⟨[.int .i64 x63.1, .int .i64 (IntKind.i64.wrap ((IntKind.i64.wrap (x64.1 + 1)) + 21600000))]⟩, .int .i64 0]⟩)))
              (some (.v (.tuple ⟨[.agg ⟨[.int .i64 x63.1, .int .i64 (IntKind.i64.wrap (x64.1 + 1))]⟩, .int .i64 0]⟩))))
             (cond (decide (x64.1 < x63.1))
              (some (.v (.tuple ⟨[.agg ⟨[.int .i64 x63.1, .int .i64 (IntKind.i64.wrap (x64.1 + 21600000))]⟩, .int .i64 0]⟩)))
              (some (.v (.tuple ⟨[.agg ⟨[.int .i64 x63.1, .int .i64 x64.1]⟩, .int .i64 0]⟩)))))
            (none))
           (none)))))))
     (cond (befE c a c b)
      (cond (befE d a c a)
       (cond (befE c b d a)
        (cond (befE d b d a)
         (cond (befE d a d b)
          (lt (angE d b) fun x65 =>
           cond (angPre d b)
           (lt (angE d b) fun x66 =>
            cond (angPre d b)
            (cond (!x66.2)
             (cond (decide (IntKind.i64.wrap (x66.1 + 1) < x65.1))
              (some (.v (.tuple ⟨[.agg ⟨[.int .i64 x65.1, .int .i64 (IntKind.i64.wrap ((IntKind.i64.wrap (x66.1 + 1)) + 21600000))]⟩, .int .i64 0]⟩)))
              (some (.v (.tuple ⟨[.agg ⟨[.int .i64 x65.1, .int .i64 (IntKind.i64.wrap (x66.1 + 1))]⟩, .int .i64 0]⟩))))
             (cond (decide (x66.1 < x65.1))
              (some (.v (.tuple ⟨[.agg ⟨[.int .i64 x65.1, .int .i64 (IntKind.i64.wrap (x66.1 + 21600000))]⟩, .int .i64 0]⟩)))
              (some (.v (.tuple ⟨[.agg ⟨[.int .i64 x65.1, .int .i64 x66.1]⟩, .int .i64 0]⟩)))))
            (none))
           (none))
          (lt (angE d b) fun x67 =>
           cond (angPre d b)
           (lt (angE d a) fun x68 =>
            cond (angPre d a)
            (cond (!x68.2)
             (cond (decide (IntKind.i64.wrap (x68.1 + 1) < x67.1))
              (some (.v (.tuple ⟨[.agg ⟨[.int .i64 x67.1, .int .i64 (IntKind.i64.wrap ((IntKind.i64.wrap (x68.1 + 1)) + 21600000))]⟩, .int .i64 0]⟩)))
              (some (.v (.tuple ⟨[.agg ⟨[.int .i64 x67.1, .int .i64 (IntKind.i64.wrap (x68.1 + 1))]⟩, .int .i64 0]⟩))))
             (cond (decide (x68.1 < x67.1))
              (some (.v (.tuple ⟨[.agg ⟨[.int .i64 x67.1, .int .i64 (IntKind.i64.wrap (x68.1 + 21600000))]⟩, .int .i64 0]⟩)))
              (some (.v (.tuple ⟨[.agg ⟨[.int .i64 x67.1, .int .i64 x68.1]⟩, .int .i64 0]⟩)))))
            (none))
           (none)))
         (cond (befE d a d b)
          (lt (angE d a) fun x69 =>
           cond (angPre d a)
           (lt (angE d b) fun x70 =>
            cond (angPre d b)
            (cond (!x70.2)
             (cond (decide (IntKind.i64.wrap (x70.1 + 1) < x69.1))
              (some (.v (.tuple ⟨[.agg ⟨[.int .i64 x69.1, .int .i64 (IntKind.i64.wrap ((IntKind.i64.wrap (x70.1 + 1)) + 21600000))]⟩, .int .i64 0]⟩)))
              (some (.v (.tuple ⟨[.agg ⟨[.int .i64 x69.1, .int .i64 (IntKind.i64.wrap (x70.1 + 1))]⟩, .int .i64 0]⟩))))
             (cond (decide (x70.1 < x69.1))
              (some (.v (.tuple ⟨[.agg ⟨[.int .i64 x69.1, .int .i64 (IntKind.i64.wrap (x70.1 + 21600000))]⟩, .int .i64 0]⟩)))
              (some (.v (.tuple ⟨[.agg ⟨[.int .i64 x69.1, .int .i64 x70.1]⟩, .int .i64 0]⟩)))))
            (none))
           (none))
          (lt (angE d a) fun x71 =>
           cond (angPre d a)
           (lt (angE d a) fun x72 =>
            cond (angPre d a)
            (cond (!x72.2)
             (cond (decide (IntKind.i64.wrap (x72.1 + 1) < x71.1))
              (some (.v (.tuple ⟨[.agg ⟨[.int .i64 x71.1, .int .i64 (IntKind.i64.wrap ((IntKind.i64.wrap (x72.1 + 1)) + 21600000))]⟩, .int .i64 0]⟩)))
              (some (.v (.tuple ⟨[.agg ⟨[.int .i64 x71.1, .int .i64 (IntKind.i64.wrap (x72.1 + 1))]⟩, .int .i64 0]⟩))))
             (cond (decide (x72.1 < x71.1))
              (some (.v (.tuple ⟨[.agg ⟨[.int .i64 x71.1, .int .i64 (IntKind.i64.wrap (x72.1 + 21600000))]⟩, .int .i64 0]⟩)))
              (some (.v (.tuple ⟨[.agg ⟨[.int .i64 x71.1, .int .i64 x72.1]⟩, .int .i64 0]⟩)))))
            (none))
           (none))))
        (cond (befE d b d a)
         (cond (befE c b d b)
          (lt (angE d b) fun x73 =>
           cond (angPre d b)
           (lt (angE d b) fun x74 =>
            cond (angPre d b)
            (cond (!x74.2)
             (cond (decide (IntKind.i64.wrap (x74.1 + 1) < x73.1))
              (some (.v (.tuple ⟨[.agg ⟨[.int .i64 x73.1, .int .i64 (IntKind.i64.wrap ((IntKind.i64.wrap (x74.1 + 1)) + 21600000))]⟩, .int .i64 0]⟩)))
              (some (.v (.tuple ⟨[.agg ⟨[.int .i64 x73.1, .int .i64 (IntKind.i64.wrap (x74.1 + 1))]⟩, .int .i64 0]⟩))))
             (cond (decide (x74.1 < x73.1))
              (some (.v (.tuple ⟨[.agg ⟨[.int .i64 x73.1, .int .i64 (IntKind.i64.wrap (x74.1 + 21600000))]⟩, .int .i64 0]⟩)))
              (some (.v (.tuple ⟨[.agg ⟨[.int .i64 x73.1, .int .i64 x74.1]⟩, .int .i64 0]⟩)))))
            (none))
           (none))
          (lt (angE d b) fun x75 =>
           cond (angPre d b)
           (lt (angE c b) fun x76 =>
            cond (angPre c b)
            (cond (!x76.2)
             (cond (decide (IntKind.i64.wrap (x76.1 + 1) < x75.1))
              (some (.v (.tuple ⟨[.agg ⟨[.int .i64 x75.1, .int .i64 (IntKind.i64.wrap ((IntKind.i64.wrap (x76.1 + 1)) + 21600000))]⟩, .int .i64 0]⟩)))
              (some (.v (.tuple ⟨[.agg ⟨[.int .i64 x75.1, .int .i64 (IntKind.i64.wrap (x76.1 + 1))]⟩, .int .i64 0]⟩))))
             (cond (decide (x76.1 < x75.1))
              (some (.v (.tuple ⟨[.agg ⟨[.int .i64 x75.1, .int .i64 (IntKind.i64.wrap (x76.1 + 21600000))]⟩, .int .i64 0]⟩)))
              (some (.v (.tuple ⟨[.agg ⟨[.int .i64 x75.1, .int .i64 x76.1]⟩, .int .i64 0]⟩)))))
            (none))
           (none)))
         (cond (befE c b d b)
          (lt (angE d a) fun x77 =>
           cond (angPre d a)
           (lt (angE d b) fun x78 =>
            cond (angPre d b)
            (cond (!x78.2)
             (cond (decide (IntKind.i64.wrap (x78.1 + 1) < x77.1))
              (some (.v (.tuple ⟨[.agg ⟨[.int .i64 x77.1, .int .i64 (IntKind.i64.wrap ((IntKind.i64.wrap (x78.1 + 1)) + 21600000))]⟩, .int .i64 0]⟩)))
              (some (.v (.tuple ⟨[.agg ⟨[.int .i64 x77.1, .int .i64 (IntKind.i64.wrap (x78.1 + 1))]⟩, .int .i64 0]⟩))))
             (cond (decide (x78.1 < x77.1))
              (some (.v (.tuple ⟨[.agg ⟨[.int .i64 x77.1, .int .i64 (IntKind.i64.wrap (x78.1 + 21600000))]⟩, .int .i64 0]⟩)))
              (some (.v (.tuple ⟨[.agg ⟨[.int .i64 x77.1, .int .i64 x78.1]⟩, .int .i64 0]⟩)))))
            (none))
           (none))
          (lt (angE d a) fun x79 =>
           cond (angPre d a)
           (lt (angE c b) fun x80 =>
            cond (angPre c b)
            (cond (!x80.2)
             (cond (decide (IntKind.i64.wrap (x80.1 + 1) < x79.1))
              (some (.v (.tuple ⟨[.agg ⟨[.int .i64 x79.1, .int .i64 (IntKind.i64.wrap ((IntKind.i64.wrap (x80.1 + 1)) + 21600000))]⟩, .int .i64 0]⟩)))
              (some (.v (.tuple ⟨[.agg ⟨[.int .i64 x79.1, .int .i64 (IntKind.i64.wrap (x80.1 + 1))]⟩, .int .i64 0]⟩))))
             (cond (decide (x80.1 < x79.1))
              (some (.v (.tuple ⟨[.agg ⟨[.int .i64 x79.1, .int .i64 (IntKind.i64.wrap (x80.1 + 21600000))]⟩, .int .i64 0]⟩)))
              (some (.v (.tuple ⟨[.agg ⟨[.int .i64 x79.1, .int .i64 x80.1]⟩, .int .i64 0]⟩)))))
            (none))
           (none)))))
       (cond (befE c b d a)
        (cond (befE d b c a)
         (cond (befE d a d b)
          (lt (angE d b) fun x81 =>
           cond (angPre d b)
           (lt (angE d b) fun x82 =>
            cond (angPre d b)
            (cond (!x82.2)
             (cond (decide (IntKind.i64.wrap (x82.1 + 1) < x81.1))
              (some (.v (.tuple ⟨[.agg ⟨[.int .i64 x81.1, .int .i64 (IntKind.i64.wrap ((IntKind.i64.wrap (x82.1 + 1)) + 21600000))]⟩, .int .i64 0]⟩)))
              (some (.v (.tuple ⟨[.agg ⟨[.int .i64 x81.1, .int .i64 (IntKind.i64.wrap (x82.1 + 1))]⟩, .int .i64 0]⟩))))
             (cond (decide (x82.1 < x81.1))
              (some (.v (.tuple ⟨[.agg ⟨[.int .i64 x81.1, .int .i64 (IntKind.i64.wrap (x82.1 + 21600000))]⟩, .int .i64 0]⟩)))
              (some (.v (.tuple ⟨[.agg ⟨[.int .i64 x81.1, .int .i64 x82.1]⟩, .int .i64 0]⟩)))))
            (none))
           (none))
          (lt (angE d b) fun x83 =>
           cond (angPre d b)
           (lt (angE d a) fun x84 =>
            cond (angPre d a)
            (cond (!x84.2)
             (cond (decide (IntKind.i64.wrap (x84.1 + 1) < x83.1))
              (some (.v (.tuple ⟨[.agg ⟨[.int .i64 x83.1, .int .i64 (IntKind.i64.wrap ((IntKind.i64.wrap (x84.1 + 1)) + 21600000))]⟩, .int .i64 0]⟩)))
              (some (.v (.tuple ⟨[.agg ⟨[.int .i64 x83.1, .int .i64 (IntKind.i64.wrap (x84.1 + 1))]⟩, .int .i64 0]⟩))))
             (cond (decide (x84.1 < x83.1))
              (some (.v (.tuple ⟨[.agg ⟨[.int .i64 x83.1, .int .i64 (IntKind.i64.wrap (x84.1 + 21600000))]⟩, .int .i64 0]⟩)))
              (some (.v (.tuple ⟨[.agg ⟨[.int .i64 x83.1, .int .i64 x84.1]⟩, .int .i64 0]⟩)))))
            (none))
           (none)))
         (cond (befE d a d b)
          (lt (angE c a) fun x85 =>
           cond (angPre c a)
           (lt (angE d b) fun x86 =>
            cond (angPre d b)
            (cond (!x86.2)
             (cond (decide (IntKind.i64.wrap (x86.1 + 1) < x85.1))
              (some (.v (.tuple ⟨[.agg ⟨[.int .i64 x85.1, .int .i64 (IntKind.i64.wrap ((IntKind.i64.wrap (x86.1 + 1)) + 21600000))]⟩, .int .i64 0]⟩)))
              (some (.v (.tuple ⟨[.agg ⟨[.int .i64 x85.1, .int .i64 (IntKind.i64.wrap (x86.1 + 1))]⟩, .int .i64 0]⟩))))
             (cond (decide (x86.1 < x85.1))
              (some (.v (.tuple ⟨[.agg ⟨[.int .i64 x85.1, .int .i64 (IntKind.i64.wrap (x86.1 + 21600000))]⟩, .int .i64 0]⟩)))
              (some (.v (.tuple ⟨[.agg ⟨[.int .i64 x85.1, .int .i64 x86.1]⟩, .int .i64 0]⟩)))))
            (none))
           (none))
          (lt (angE c a) fun x87 =>
           cond (angPre c a)
           (lt (angE d a) fun x88 =>
            cond (angPre d a)
            (cond (!x88.2)
             (cond (decide (IntKind.i64.wrap (x88.1 + 1) < x87.1))
              (some (.v (.tuple ⟨[.agg ⟨[.int .i64 x87.1, .int .i64 (IntKind.i64.wrap ((IntKind.i64.wrap (x88.1 + 1)) + 21600000))]⟩, .int .i64 0]⟩)))
              (some (.v (.tuple ⟨[.agg ⟨[.int .i64 x87.1, .int .i64 (IntKind.i64.wrap (x88.1 + 1))]⟩, .int .i64 0]⟩))))
             (cond (decide (x88.1 < x87.1))
              (some (.v (.tuple ⟨[.agg ⟨[.int .i64 x87.1, .int .i64 (IntKind.i64.wrap (x88.1 + 21600000))]⟩, .int .i64 0]⟩)))
              (some (.v (.tuple ⟨[.agg ⟨[.int .i64 x87.1, .int .i64 x88.1]⟩, .int .i64 0]⟩)))))
            (none))
           (none))))
        (cond (befE d b c a)
         (cond (befE c b d b)
          (lt (angE d b) fun x89 =>
           cond (angPre d b)
           (lt (angE d b) fun x90 =>
            cond (angPre d b)
            (cond (!x90.2)
             (cond (decide (IntKind.i64.wrap (x90.1 + 1) < x89.1))
              (some (.v (.tuple ⟨[.agg ⟨[.int .i64 x89.1, .int .i64 (IntKind.i64.wrap ((IntKind.i64.wrap (x90.1 + 1)) + 21600000))]⟩, .int .i64 0]⟩)))
              (some (.v (.tuple ⟨[.agg ⟨[.int .i64 x89.1, .int .i64 (IntKind.i64.wrap (x90.1 + 1))]⟩, .int .i64 0]⟩))))
             (cond (decide (x90.1 < x89.1))
              (some (.v (.tuple ⟨[.agg ⟨[.int .i64 x89.1, .int .i64 (IntKind.i64.wrap (x90.1 + 21600000))]⟩, .int .i64 0]⟩)))
              (some (.v (.tuple ⟨[.agg ⟨[.int .i64 x89.1, .int .i64 x90.1]⟩, .int .i64 0]⟩)))))
            (none))
           (none))
          (lt (angE d b) fun x91 =>
           cond (angPre d b)
           (lt (angE c b) fun x92 =>
            cond (angPre c b)
            (cond (!x92.2)
             (cond (decide (IntKind.i64.wrap (x92.1 + 1) < x91.1))
              (some (.v (.tuple ⟨[.agg ⟨[.int .i64 x91.1, .int .i64 (IntKind.i64.wrap ((IntKind.i64.wrap (x92.1 + 1)) + 21600000))]⟩, .int .i64 0]⟩)))
              (some (.v (.tuple ⟨[.agg ⟨[.int .i64 x91.1, .int .i64 (IntKind.i64.wrap (x92.1 + 1))]⟩, .int .i64 0]⟩))))
             (cond (decide (x92.1 < x91.1))
              (some (.v (.tuple ⟨[.agg ⟨[.int .i64 x91.1, .int .i64 (IntKind.i64.wrap (x92.1 + 21600000))]⟩, .int .i64 0]⟩)))
              (some (.v (.tuple ⟨[.agg ⟨[.int .i64 x91.1, .int .i64 x92.1]⟩, .int .i64 0]⟩)))))
            (none))
           (none)))
         (cond (befE c b d b)
          (lt (angE c a) fun x93 =>
           cond (angPre c a)
           (lt (angE d b) fun x94 =>
            cond (angPre d b)
            (cond (!x94.2)
             (cond (decide (IntKind.i64.wrap (x94.1 + 1) < x93.1))
              (some (.v (.tuple ⟨[.agg ⟨[.int .i64 x93.1, .int .i64 (IntKind.i64.wrap ((IntKind.i64.wrap (x94.1 + 1)) + 21600000))]⟩, .int .i64 0]⟩)))
              (some (.v (.tuple ⟨[.agg ⟨[.int .i64 x93.1, .int .i64 (IntKind.i64.wrap (x94.1 + 1))]⟩, .int .i64 0]⟩))))
             (cond (decide (x94.1 < x93.1))
              (some (.v (.tuple ⟨[.agg ⟨[.int .i64 x93.1, .int .i64 (IntKind.i64.wrap (x94.1 + 21600000))]⟩, .int .i64 0]⟩)))
              (some (.v (.tuple ⟨[.agg ⟨[.int .i64 x93.1, .int .i64 x94.1]⟩, .int .i64 0]⟩)))))
            (none))
           (none))
          (lt (angE c a) fun x95 =>
           cond (angPre c a)
           (lt (angE c b) fun x96 =>
            cond (angPre c b)
            (cond (!x96.2)
             (cond (decide (IntKind.i64.wrap (x96.1 + 1) < x95.1))
              (some (.v (.tuple ⟨[.agg ⟨[.int .i64 x95.1, .int .i64 (IntKind.i64.wrap ((IntKind.i64.wrap (x96.1 + 1)) + 21600000))]⟩, .int .i64 0]⟩)))
              (some (.v (.tuple ⟨[.agg ⟨[.int .i64 x95.1, .int .i64 (IntKind.i64.wrap (x96.1 + 1))]⟩, .int .i64 0]⟩))))
             (cond (decide (x96.1 < x95.1))
              (some (.v (.tuple ⟨[.agg ⟨[.int .i64 x95.1, .int .i64 (IntKind.i64.wrap (x96.1 + 21600000))]⟩, .int .i64 0]⟩)))
              (some (.v (.tuple ⟨[.agg ⟨[.int .i64 x95.1, .int .i64 x96.1]⟩, .int .i64 0]⟩)))))
            (none))
           (none))))))
      (cond (befE d a c a)
       (cond (befE c a d a)
        (cond (befE d b d a)
         (cond (befE d a d b)
          (lt (angE d b) fun x97 =>
           cond (angPre d b)
           (lt (angE d b) fun x98 =>
            cond (angPre d b)
            (cond (!x98.2)
             (cond (decide (IntKind.i64.wrap (x98.1 + 1) < x97.1))
              (some (.v (.tuple ⟨[.agg ⟨[.int .i64 x97.1, .int .i64 (IntKind.i64.wrap ((IntKind.i64.wrap (x98.1 + 1)) + 21600000))]⟩, .int .i64 0]⟩)))
              (some (.v (.tuple ⟨[.agg ⟨[.int .i64 x97.1, .int .i64 (IntKind.i64.wrap (x98.1 + 1))]⟩, .int .i64 0]⟩))))
             (cond (decide (x98.1 < x97.1))
              (some (.v (.tuple ⟨[.agg ⟨[.int .i64 x97.1, .int .i64 (IntKind.i64.wrap (x98.1 + 21600000))]⟩, .int .i64 0]⟩)))
              (some (.v (.tuple ⟨[.agg ⟨[.int .i64 x97.1, .int .i64 x98.1]⟩, .int .i64 0]⟩)))))
            (none))
           (none))
          (lt (angE d b) fun x99 =>
           cond (angPre d b)
           (lt (angE d a) fun x100 =>
            cond (angPre d a)
            (cond (!x100.2)
             (cond (decide (IntKind.i64.wrap (x100.1 + 1) < x99.1))
              (some (.v (.tuple ⟨[.agg ⟨[.int .i64 x99.1, .int .i64 (IntKind.i64.wrap ((IntKind.i64.wrap (x100.1 + 1)) + 21600000))]⟩, .int .i64 0]⟩)))
              (some (.v (.tuple ⟨[.agg ⟨[.int .i64 x99.1, .int .i64 (IntKind.i64.wrap (x100.1 + 1))]⟩, .int .i64 0]⟩))))
             (cond (decide (x100.1 < x99.1))
              (some (.v (.tuple ⟨[.agg ⟨[.int .i64 x99.1, .int .i64 (IntKind.i64.wrap (x100.1 + 21600000))]⟩, .int .i64 0]⟩)))
              (some (.v (.tuple ⟨[.agg ⟨[.int .i64 x99.1, .int .i64 x100.1]⟩, .int .i64 0]⟩)))))
            (none))
           (none)))
         (cond (befE d a d b)
          (lt (angE d a) fun x101 =>
           cond (angPre d a)
           (lt (angE d b) fun x102 =>
            cond (angPre d b)
            (cond (!x102.2)
             (cond (decide (IntKind.i64.wrap (x102.1 + 1) < x101.1))
              (some (.v (.tuple ⟨[.agg ⟨[.int .i64 x101.1, .int .i64 (IntKind.i64.wrap ((IntKind.i64.wrap (x102.1 + 1)) + 21600000))]⟩, .int .i64 0]⟩)))
              (some (.v (.tuple ⟨[.agg ⟨[.int .i64 x101.1, .int .i64 (IntKind.i64.wrap (x102.1 + 1))]⟩, .int .i64 0]⟩))))
             (cond (decide (x102.1 < x101.1))
              (some (.v (.tuple ⟨[.agg ⟨[.int .i64 x101.1, .int .i64 (IntKind.i64.wrap (x102.1 + 21600000))]⟩, .int .i64 0]⟩)))
              (some (.v (.tuple ⟨[.agg ⟨[.int .i64 x101.1, .int .i64 x102.1]⟩, .int .i64 0]⟩)))))
            (none))
           (none))
          (lt (angE d a) fun x103 =>
           cond (angPre d a)
           (lt (angE d a) fun x104 =>
            cond (angPre d a)
            (cond (!x104.2)
             (cond (decide (IntKind.i64.wrap (x104.1 + 1) < x103.1))
              (some (.v (.tuple ⟨[.agg ⟨[.int .i64 x103.1, .int .i64 (IntKind.i64.wrap ((IntKind.i64.wrap (x104.1 + 1)) + 21600000))]⟩, .int .i64 0]⟩)))
              (some (.v (.tuple ⟨[.agg ⟨[.int .i64 x103.1, .int .i64 (IntKind.i64.wrap (x104.1 + 1))]⟩, .int .i64 0]⟩))))
             (cond (decide (x104.1 < x103.1))
              (some (.v (.tuple ⟨[.agg ⟨[.int .i64 x103.1, .int .i64 (IntKind.i64.wrap (x104.1 + 21600000))]⟩, .int .i64 0]⟩)))
              (some (.v (.tuple ⟨[.agg ⟨[.int .i64 x103.1, .int .i64 x104.1]⟩, .int .i64 0]⟩)))))
            (none))
           (none))))
        (cond (befE d b d a)
         (cond (befE c a d b)
          (lt (angE d b) fun x105 =>
           cond (angPre d b)
           (lt (angE d b) fun x106 =>
            cond (angPre d b)
            (cond (!x106.2)
             (cond (decide (IntKind.i64.wrap (x106.1 + 1) < x105.1))
              (some (.v (.tuple ⟨[.agg ⟨[.int .i64 x105.1, .int .i64 (IntKind.i64.wrap ((IntKind.i64.wrap (x106.1 + 1)) + 21600000))]⟩, .int .i64 0]⟩)))
              (some (.v (.tuple ⟨[.agg ⟨[.int .i64 x105.1, .int .i64 (IntKind.i64.wrap (x106.1 + 1))]⟩, .int .i64 0]⟩))))
             (cond (decide (x106.1 < x105.1))
              (some (.v (.tuple ⟨[.agg ⟨[.int .i64 x105.1, .int .i64 (IntKind.i64.wrap (x106.1 + 21600000))]⟩, .int .i64 0]⟩)))
              (some (.v (.tuple ⟨[.agg ⟨[.int .i64 x105.1, .int .i64 x106.1]⟩, .int .i64 0]⟩)))))
            (none))
           (none))
          (lt (angE d b) fun x107 =>
           cond (angPre d b)
           (lt (angE c a) fun x108 =>
            cond (angPre c a)
            (cond (!x108.2)
             (cond (decide (IntKind.i64.wrap (x108.1 + 1) < x107.1))
              (some (.v (.tuple ⟨[.agg ⟨[.int .i64 x107.1, .int .i64 (IntKind.i64.wrap ((IntKind.i64.wrap (x108.1 + 1)) + 21600000))]⟩, .int .i64 0]⟩)))
              (some (.v (.tuple ⟨[.agg ⟨[.int .i64 x107.1, .int .i64 (IntKind.i64.wrap (x108.1 + 1))]⟩, .int .i64 0]⟩))))
             (cond (decide (x108.1 < x107.1))
              (some (.v (.tuple ⟨[.agg ⟨[.int .i64 x107.1, .int .i64 (IntKind.i64.wrap (x108.1 + 21600000))]⟩, .int .i64 0]⟩)))
              (some (.v (.tuple ⟨[.agg ⟨[.int .i64 x107.1, .int .i64 x108.1]⟩, .int .i64 0]⟩)))))
            (none))
           (none)))
         (cond (befE c a d b)
          (lt (angE d a) fun x109 =>
           cond (angPre d a)
           (lt (angE d b) fun x110 =>
            cond (angPre d b)
            (cond (!x110.2)
             (cond (decide (IntKind.i64.wrap (x110.1 + 1) < x109.1))
              (some (.v (.tuple ⟨[.agg ⟨[.int .i64 x109.1, .int .i64 (IntKind.i64.wrap ((IntKind.i64.wrap (x110.1 + 1)) + 21600000))]⟩, .int .i64 0]⟩)))
              (some (.v (.tuple ⟨[.agg ⟨[.int .i64 x109.1, .int .i64 (IntKind.i64.wrap (x110.1 + 1))]⟩, .int .i64 0]⟩))))
             (cond (decide (x110.1 < x109.1))
              (some (.v (.tuple ⟨[.agg ⟨[.int .i64 x109.1, .int .i64 (IntKind.i64.wrap (x110.1 + 21600000))]⟩, .int .i64 0]⟩)))
              (some (.v (.tuple ⟨[.agg ⟨[.int .i64 x109.1, .int .i64 x110.1]⟩, .int .i64 0]⟩)))))
            (none))
           (none))
          (lt (angE d a) fun x111 =>
           cond (angPre d a)
           (lt (angE c a) fun x112 =>
            cond (angPre c a)
            (cond (!x112.2)
             (cond (decide (IntKind.i64.wrap (x112.1 + 1) < x111.1))
              (some (.v (.tuple ⟨[.agg ⟨[.int .i64 x111.1, .int .i64 (IntKind.i64.wrap ((IntKind.i64.wrap (x112.1 + 1)) + 21600000))]⟩, .int .i64 0]⟩)))
              (some (.v (.tuple ⟨[.agg ⟨[.int .i64 x111.1, .int .i64 (IntKind.i64.wrap (x112.1 + 1))]⟩, .int .i64 0]⟩))))
             (cond (decide (x112.1 < x111.1))
              (some (.v (.tuple ⟨[.agg ⟨[.int .i64 x111.1, .int .i64 (IntKind.i64.wrap (x112.1 + 21600000))]⟩, .int .i64 0]⟩)))
              (some (.v (.tuple ⟨[.agg ⟨[.int .i64 x111.1, .int .i64 x112.1]⟩, .int .i64 0]⟩)))))
            (none))
           (none)))))
       (cond (befE c a d a)
        (cond (befE d b c a)
         (cond (befE d a d b)
          (lt (angE d b) fun x113 =>
           cond (angPre d b)
           (lt (angE d b) fun x114 =>
            cond (angPre d b)
            (cond (!x114.2)
             (cond (decide (IntKind.i64.wrap (x114.1 + 1) < x113.1))
              (some (.v (.tuple ⟨[.agg ⟨[.int .i64 x113.1, .int .i64 (IntKind.i64.wrap ((IntKind.i64.wrap (x114.1 + 1)) + 21600000))]⟩, .int .i64 0]⟩)))
              (some (.v (.tuple ⟨[.agg ⟨[.int .i64 x113.1, .int .i64 (IntKind.i64.wrap (x114.1 + 1))]⟩, .int .i64 0]⟩))))
             (cond (decide (x114.1 < x113.1))
              (some (.v (.tuple ⟨[.agg ⟨[.int .i64 x113.1, .int .i64 (IntKind.i64.wrap (x114.1 + 21600000))]⟩, .int .i64 0]⟩)))
              (some (.v (.tuple ⟨[.agg ⟨[.int .i64 x113.1, .int .i64 x114.1]⟩, .int .i64 0]⟩)))))
            (none))
           (none))
          (lt (angE d b) fun x115 =>
           cond (angPre d b)
           (lt (angE d a) fun x116 =>
            cond (angPre d a)
            (cond (!x116.2)
             (cond (decide (IntKind.i64.wrap (x116.1 + 1) < x115.1))
              (some (.v (.tuple ⟨[.agg ⟨[.int .i64 x115.1, .int .i64 (IntKind.i64.wrap ((IntKind.i64.wrap (x116.1 + 1)) + 21600000))]⟩, .int .i64 0]⟩)))
              (some (.v (.tuple ⟨[.agg ⟨[.int .i64 x115.1, .int .i64 (IntKind.i64.wrap (x116.1 + 1))]⟩, .int .i64 0]⟩))))
             (cond (decide (x116.1 < x115.1))
              (some (.v (.tuple ⟨[.agg ⟨[.int .i64 x115.1, .int .i64 (IntKind.i64.wrap (x116.1 + 21600000))]⟩, .int .i64 0]⟩)))
              (some (.v (.tuple ⟨[.agg ⟨[.int .i64 x115.1, .int .i64 x116.1]⟩, .int .i64 0]⟩)))))
            (none))
           (none)))
         (cond (befE d a d b)
          (lt (angE c a) fun x117 =>
           cond (angPre c a)
           (lt (angE d b) fun x118 =>
            cond (angPre d b)
            (cond (!x118.2)
             (cond (decide (IntKind.i64.wrap (x118.1 + 1) < x117.1))
              (some (.v (.tuple ⟨[.agg ⟨[.int .i64 x117.1, .int .i64 (IntKind.i64.wrap ((IntKind.i64.wrap (x118.1 + 1)) + 21600000))]⟩, .int .i64 0]⟩)))
              (some (.v (.tuple ⟨[.agg ⟨[.int .i64 x117.1, .int .i64 (IntKind.i64.wrap (x118.1 + 1))]⟩, .int .i64 0]⟩))))
             (cond (decide (x118.1 < x117.1))
              (some (.v (.tuple ⟨[.agg ⟨[.int .i64 x117.1, .int .i64 (IntKind.i64.wrap (x118.1 + 21600000))]⟩, .int .i64 0]⟩)))
              (some (.v (.tuple ⟨[.agg ⟨[.int .i64 x117.1, .int .i64 x118.1]⟩, .int .i64 0]⟩)))))
            (none))
           (none))
          (lt (angE c a) fun x119 =>
           cond (angPre c a)
           (lt (angE d a) fun x120 =>
            cond (angPre d a)
            (cond (!x120.2)
             (cond (decide (IntKind.i64.wrap (x120.1 + 1) < x119.1))
              (some (.v (.tuple ⟨[.agg ⟨[.int .i64 x119.1, .int .i64 (IntKind.i64.wrap ((IntKind.i64.wrap (x120.1 + 1)) + 21600000))]⟩, .int .i64 0]⟩)))
              (some (.v (.tuple ⟨[.agg ⟨[.int .i64 x119.1, .int .i64 (IntKind.i64.wrap (x120.1 + 1))]⟩, .int .i64 0]⟩))))
             (cond (decide (x120.1 < x119.1))
              (some (.v (.tuple ⟨[.agg ⟨[.int .i64 x119.1, .int .i64 (IntKind.i64.wrap (x120.1 + 21600000))]⟩, .int .i64 0]⟩)))
              (some (.v (.tuple ⟨[.agg ⟨[.int .i64 x119.1, .int .i64 x120.1]⟩, .int .i64 0]⟩)))))
            (none))
           (none))))
        (cond (befE d b c a)
         (cond (befE c a d b)
          (lt (angE d b) fun x121 =>
           cond (angPre d b)
           (lt (angE d b) fun x122 =>
            cond (angPre d b)
            (cond (!x122.2)
             (cond (decide (IntKind.i64.wrap (x122.1 + 1) < x121.1))
              (some (.v (.tuple ⟨[.agg ⟨[.int .i64 x121.1, .int .i64 (IntKind.i64.wrap ((IntKind.i64.wrap (x122.1 + 1)) + 21600000))]⟩, .int .i64 0]⟩)))
              (some (.v (.tuple ⟨[.agg ⟨[.int .i64 x121.1, .int .i64 (IntKind.i64.wrap (x122.1 + 1))]⟩, .int .i64 0]⟩))))
             (cond (decide (x122.1 < x121.1))
              (some (.v (.tuple ⟨[.agg ⟨[.int .i64 x121.1, .int .i64 (IntKind.i64.wrap (x122.1 + 21600000))]⟩, .int .i64 0]⟩)))
              (some (.v (.tuple ⟨[.agg ⟨[.int .i64 x121.1, .int .i64 x122.1]⟩, .int .i64 0]⟩)))))
            (none))
           (none))
          (lt (angE d b) fun x123 =>
           cond (angPre d b)
           (lt (angE c a) fun x124 =>
            cond (angPre c a)
            (cond (!x124.2)
             (cond (decide (IntKind.i64.wrap (x124.1 + 1) < x123.1))
              (some (.v (.tuple ⟨[.agg ⟨[.int .i64 x123.1, .int .i64 (IntKind.i64.wrap ((IntKind.i64.wrap (x124.1 + 1)) + 21600000))]⟩, .int .i64 0]⟩)))
              (some (.v (.tuple ⟨[.agg ⟨[.int .i64 x123.1, .int .i64 (IntKind.i64.wrap (x124.1 + 1))]⟩, .int .i64 0]⟩))))
             (cond (decide (x124.1 < x123.1))
              (some (.v (.tuple ⟨[.agg ⟨[.int .i64 x123.1, .int .i64 (IntKind.i64.wrap (x124.1 + 21600000))]⟩, .int .i64 0]⟩)))
              (some (.v (.tuple ⟨[.agg ⟨[.int .i64 x123.1, .int .i64 x124.1]⟩, .int .i64 0]⟩)))))
            (none))
           (none)))
         (cond (befE c a d b)
          (lt (angE c a) fun x125 =>
           cond (angPre c a)
           (lt (angE d b) fun x126 =>
            cond (angPre d b)
            (cond (!x126.2)
             (cond (decide (IntKind.i64.wrap (x126.1 + 1) < x125.1))
              (some (.v (.tuple ⟨[.agg ⟨[.int .i64 x125.1, .int .i64 (IntKind.i64.wrap ((IntKind.i64.wrap (x126.1 + 1)) + 21600000))]⟩, .int .i64 0]⟩)))
              (some (.v (.tuple ⟨[.agg ⟨[.int .i64 x125.1, .int .i64 (IntKind.i64.wrap (x126.1 + 1))]⟩, .int .i64 0]⟩))))
             (cond (decide (x126.1 < x125.1))
              (some (.v (.tuple ⟨[.agg ⟨[.int .i64 x125.1, .int .i64 (IntKind.i64.wrap (x126.1 + 21600000))]⟩, .int .i64 0]⟩)))
              (some (.v (.tuple ⟨[.agg ⟨[.int .i64 x125.1, .int .i64 x126.1]⟩, .int .i64 0]⟩)))))
            (none))
           (none))
          (lt (angE c a) fun x127 =>
           cond (angPre c a)
           (lt (angE c a) fun x128 =>
            cond (angPre c a)
            (cond (!x128.2)
             (cond (decide (IntKind.i64.wrap (x128.1 + 1) < x127.1))
              (some (.v (.tuple ⟨[.agg ⟨[.int .i64 x127.1, .int .i64 (IntKind.i64.wrap ((IntKind.i64.wrap (x128.1 + 1)) + 21600000))]⟩, .int .i64 0]⟩)))
              (some (.v (.tuple ⟨[.agg ⟨[.int .i64 x127.1, .int .i64 (IntKind.i64.wrap (x128.1 + 1))]⟩, .int .i64 0]⟩))))
             (cond (decide (x128.1 < x127.1))
              (some (.v (.tuple ⟨[.agg ⟨[.int .i64 x127.1, .int .i64 (IntKind.i64.wrap (x128.1 + 21600000))]⟩, .int .i64 0]⟩)))
              (some (.v (.tuple ⟨[.agg ⟨[.int .i64 x127.1, .int .i64 x128.1]⟩, .int .i64 0]⟩)))))
            (none))
           (none)))))))))) := by kernel_rfl
theorem rbear (a b c d : Int) : Gives Tryz.prog 52 [.agg ⟨[.int .i64 a, .int .i64 b]⟩, .agg ⟨[.int .i64 c, .int .i64 d]⟩] (arcV (bearR a b c d)) := by
  refine evF_gives (E := []) mixed (by simp) Cs_ok book_rbear_ok (lim := 20) (d := 6) (nm := []) ?_
  rw [rbear_tree a b c d]
  show cond (!(valE a b)) (some (.v (arcV (0, 0, 1)))) (cond (!(valE c d)) (some (.v (arcV (0, 0, 1)))) (cond (orgE a b c d) (some (.v (arcV (0, 21600000, 0)))) (bgS (c, a) (c, b) (d, a) (d, b)))) = _
  rw [valE_eq, valE_eq, orgE_eq]
  cases h1 : validB a b
  · unfold bearR
    rw [h1, Bool.and_false, if_pos rfl]; rfl
  · cases h2 : validB c d
    · unfold bearR
      rw [h2, Bool.false_and, if_pos rfl]; rfl
    · cases h3 : originB a b c d
      · rw [Bool.not_true, cond_false, cond_false, cond_false, bgS_bear h2 h1 h3]
      · unfold bearR
        rw [h1, h2, h3, if_neg (by simp), if_pos rfl]; rfl
end Go.Proofs.YtkfkddbglnbjgaaGreat
