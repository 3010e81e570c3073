/-
  The addition theorem of truncated sines and cosines, with its error. No program here. The sine and the cosine of any angle, as numbers near enough: their addition theorem, and that the program's bounds enclose them. No program here. Sine and cosine of any integer angle: the addition theorem, quarters of a turn, and the program's bounds. No program here.
-/
import Derived.Test.YtfilgpifiboccaaGreatT15
namespace Go.Proofs.YtfilgpifiboccaaGreat
namespace TA
/-- The sum of f i for i below n. -/
def sm (f : Nat → Rat) : Nat → Rat
  | 0 => 0
  | n + 1 => sm f n + f n
theorem sm_congr {f g : Nat → Rat} : ∀ {n : Nat}, (∀ i, i < n → f i = g i) → sm f n = sm g n
  | 0, _ => rfl
  | n + 1, h => by
    unfold sm
    rw [sm_congr (fun i hi => h i (by omega)), h n (by omega)]
theorem sm_add (f g : Nat → Rat) : ∀ n, sm (fun i => f i + g i) n = sm f n + sm g n
  | 0 => by unfold sm; grind
  | n + 1 => by unfold sm; rw [sm_add f g n]; grind
theorem sm_mul (c : Rat) (f : Nat → Rat) : ∀ n, sm (fun i => c * f i) n = c * sm f n
  | 0 => by unfold sm; grind
  | n + 1 => by unfold sm; rw [sm_mul c f n]; grind
theorem sm_sub (f g : Nat → Rat) : ∀ n, sm (fun i => f i - g i) n = sm f n - sm g n
  | 0 => by unfold sm; grind
  | n + 1 => by unfold sm; rw [sm_sub f g n]; grind
theorem sm_first (f : Nat → Rat) : ∀ n, sm f (n + 1) = f 0 + sm (fun i => f (i + 1)) n
  | 0 => by unfold sm; unfold sm; grind
  | n + 1 => by
    rw [sm, sm_first f n, sm]
    grind
theorem sm_split (f : Nat → Rat) (m : Nat) : ∀ n, sm f (m + n) = sm f m + sm (fun i => f (m + i)) n
  | 0 => by simp [sm]; grind
  | n + 1 => by
    rw [← Nat.add_assoc, sm, sm_split f m n, sm]
    grind
theorem sm_le {f g : Nat → Rat} : ∀ {n : Nat}, (∀ i, i < n → f i ≤ g i) → sm f n ≤ sm g n
  | 0, _ => by unfold sm; grind
  | n + 1, h => by
    unfold sm
    have := sm_le (f := f) (g := g) (n := n) (fun i hi => h i (by omega))
    have := h n (by omega)
    grind
theorem sm_neg (f : Nat → Rat) : ∀ n, sm (fun i => - f i) n = - sm f n
  | 0 => by unfold sm; grind
  | n + 1 => by unfold sm; rw [sm_neg f n]; grind
theorem sm_abs {f g : Nat → Rat} {n : Nat} (h : ∀ i, i < n → - g i ≤ f i ∧ f i ≤ g i) : - sm g n ≤ sm f n ∧ sm f n ≤ sm g n := by
  refine ⟨?_, sm_le fun i hi => (h i hi).2⟩
  rw [← sm_neg]
  exact sm_le fun i hi => (h i hi).1
/-- A triangle summed by rows, and by diagonals. -/
theorem tri (G : Nat → Nat → Rat) : ∀ N, sm (fun a => sm (fun b => G a b) (N + 1 - a)) (N + 1) = sm (fun n => sm (fun a => G a (n - a)) (n + 1)) (N + 1)
  | 0 => by simp [sm]
  | N + 1 => by
    have h1 : sm (fun a => sm (fun b => G a b) (N + 1 + 1 - a)) (N + 1) = sm (fun a => sm (fun b => G a b) (N + 1 - a) + G a (N + 1 - a)) (N + 1) :=
      sm_congr fun a ha => by
        have : N + 1 + 1 - a = (N + 1 - a) + 1 := by omega
        rw [this, sm]
    rw [sm, h1, sm_add, tri G N]
    have h2 : N + 1 + 1 - (N + 1) = 1 := by omega
    have h3 : sm (fun b => G (N + 1) b) 1 = G (N + 1) 0 := by simp [sm]; grind
    rw [h2, h3]
    conv => rhs; rw [sm]
    have h4 : sm (fun a => G a (N + 1 - a)) (N + 1 + 1) = sm (fun a => G a (N + 1 - a)) (N + 1) + G (N + 1) 0 := by
      rw [sm]; simp
    rw [h4]
    grind
/-- A square is its triangle and the rest. -/
theorem square (G : Nat → Nat → Rat) (N : Nat) : sm (fun a => sm (fun b => G a b) (N + 1)) (N + 1) = sm (fun n => sm (fun a => G a (n - a)) (n + 1)) (N + 1) + sm (fun a => sm (fun j => G a (N + 1 - a + j)) a) (N + 1) := by
  rw [← tri, ← sm_add]
  refine sm_congr fun a ha => ?_
  have := sm_split (fun b => G a b) (N + 1 - a) a
  rw [← this]
  congr 1
  omega
def P : Nat → Rat → Rat
  | 0, _ => 1
  | n + 1, x => P n x * x / ((n : Rat) + 1)
theorem pos (n : Nat) : (0 : Rat) < (n : Rat) + 1 := by
  have : (0 : Rat) ≤ (n : Rat) := by exact_mod_cast Nat.zero_le n
  grind
theorem P_succ (n : Nat) (x : Rat) : ((n : Rat) + 1) * P (n + 1) x = x * P n x := by
  have := pos n
  show ((n : Rat) + 1) * (P n x * x / ((n : Rat) + 1)) = x * P n x
  grind
theorem cancel {k a b : Rat} (hk : 0 < k) (h : k * a = k * b) : a = b := by
  have h1 : k * (a - b) = 0 := by grind
  have h2 : k ≠ 0 := by grind
  grind
/-- The binomial law. -/
theorem binom (x y : Rat) : ∀ n, P n (x + y) = sm (fun a => P a x * P (n - a) y) (n + 1)
  | 0 => by simp [sm, P]; grind
  | n + 1 => by
    have ih := binom x y n
    have hp := pos n
    have h1 : ((n : Rat) + 1) * sm (fun a => P a x * P (n + 1 - a) y) (n + 1 + 1) = sm (fun a => (a : Rat) * P a x * P (n + 1 - a) y) (n + 1 + 1) + sm (fun a => P a x * (((n + 1 - a : Nat) : Rat) * P (n + 1 - a) y)) (n + 1 + 1) := by
      rw [← sm_mul, ← sm_add]
      refine sm_congr fun a ha => ?_
      have : ((n + 1 - a : Nat) : Rat) = (n : Rat) + 1 - (a : Rat) := by
        have e : n + 1 - a + a = n + 1 := by omega
        have : ((n + 1 - a + a : Nat) : Rat) = ((n + 1 : Nat) : Rat) := by rw [e]
        push_cast at this
        grind
      rw [this]
      grind
    have h2 : sm (fun a => (a : Rat) * P a x * P (n + 1 - a) y) (n + 1 + 1) = x * sm (fun a => P a x * P (n - a) y) (n + 1) := by
      rw [sm_first, ← sm_mul]
      have z : ((0 : Nat) : Rat) = 0 := rfl
      have : sm (fun i => ((i + 1 : Nat) : Rat) * P (i + 1) x * P (n + 1 - (i + 1)) y) (n + 1) = sm (fun i => x * (P i x * P (n - i) y)) (n + 1) := sm_congr fun i hi => by
        have := P_succ i x
        have e : n + 1 - (i + 1) = n - i := by omega
        rw [e]
        push_cast
        grind
      rw [this, z]
      grind
    have h3 : sm (fun a => P a x * (((n + 1 - a : Nat) : Rat) * P (n + 1 - a) y)) (n + 1 + 1) = y * sm (fun a => P a x * P (n - a) y) (n + 1) := by
      rw [sm, ← sm_mul]
      have : sm (fun a => P a x * (((n + 1 - a : Nat) : Rat) * P (n + 1 - a) y)) (n + 1) = sm (fun i => y * (P i x * P (n - i) y)) (n + 1) := sm_congr fun i hi => by
        have e : n + 1 - i = (n - i) + 1 := by omega
        have := P_succ (n - i) y
        rw [e]
        push_cast
        grind
      rw [this]
      have z : ((n + 1 - (n + 1) : Nat) : Rat) = 0 := by rw [Nat.sub_self]; rfl
      rw [z]
      grind
    have h4 := P_succ n (x + y)
    rw [ih] at h4
    refine cancel hp ?_
    rw [h1, h2, h3, h4]
    generalize sm (fun a => P a x * P (n - a) y) (n + 1) = s
    grind
/-! ### Bounds -/
theorem mul_abs {a b A B : Rat} (h1 : -A ≤ a) (h2 : a ≤ A) (h3 : -B ≤ b) (h4 : b ≤ B) : -(A * B) ≤ a * b ∧ a * b ≤ A * B := by
  have q1 : 0 ≤ (A - a) * (B + b) := Rat.mul_nonneg (by grind) (by grind)
  have q2 : 0 ≤ (A + a) * (B - b) := Rat.mul_nonneg (by grind) (by grind)
  have q3 : 0 ≤ (A - a) * (B - b) := Rat.mul_nonneg (by grind) (by grind)
  have q4 : 0 ≤ (A + a) * (B + b) := Rat.mul_nonneg (by grind) (by grind)
  constructor <;> grind
theorem P_abs {x X : Rat} (h1 : -X ≤ x) (h2 : x ≤ X) : ∀ n, - P n X ≤ P n x ∧ P n x ≤ P n X
  | 0 => by unfold P; grind
  | n + 1 => by
    have ih := P_abs h1 h2 n
    have hp := pos n
    have hm := mul_abs ih.1 ih.2 h1 h2
    have e1 := P_succ n x
    have e2 := P_succ n X
    have hq : 0 ≤ ((n : Rat) + 1) * (P (n + 1) X - P (n + 1) x) := by grind
    have hr : 0 ≤ ((n : Rat) + 1) * (P (n + 1) X + P (n + 1) x) := by grind
    have c : ∀ z : Rat, 0 ≤ ((n : Rat) + 1) * z → 0 ≤ z := fun z hz => by
      rcases (Rat.le_total : 0 ≤ z ∨ z ≤ 0) with h | h
      · exact h
      · have : 0 ≤ ((n : Rat) + 1) * (-z) := Rat.mul_nonneg (by grind) (by grind)
        have : ((n : Rat) + 1) * z = 0 := by grind
        have : z = 0 := cancel hp (by grind)
        grind
    have := c _ hq
    have := c _ hr
    grind
theorem P_nonneg {X : Rat} (h : 0 ≤ X) (n : Nat) : 0 ≤ P n X := by
  have := P_abs (x := X) (X := X) (by grind) (by grind) n
  grind
/-- The signs of the cosine's and the sine's series. -/
def sc (n : Nat) : Rat := if n % 4 = 0 then 1 else if n % 4 = 2 then -1 else 0
def ss (n : Nat) : Rat := if n % 4 = 1 then 1 else if n % 4 = 3 then -1 else 0
theorem signs (a b : Nat) : sc (a + b) = sc a * sc b - ss a * ss b ∧ ss (a + b) = ss a * sc b + sc a * ss b := by
  have h0 : ∀ i j : Fin 4, (sc (i.val + j.val) = sc i.val * sc j.val - ss i.val * ss j.val ∧ ss (i.val + j.val) = ss i.val * sc j.val + sc i.val * ss j.val) := by decide +kernel
  have h : ∀ i j : Nat, i < 4 → j < 4 → (sc (i + j) = sc i * sc j - ss i * ss j ∧ ss (i + j) = ss i * sc j + sc i * ss j) := fun i j hi hj => h0 ⟨i, hi⟩ ⟨j, hj⟩
  have e : ∀ n : Nat, sc n = sc (n % 4) ∧ ss n = ss (n % 4) := fun n => by unfold sc ss; simp
  have k := h (a % 4) (b % 4) (by omega) (by omega)
  rw [(e (a + b)).1, (e (a + b)).2, (e a).1, (e a).2, (e b).1, (e b).2]
  have m : (a + b) % 4 = (a % 4 + b % 4) % 4 := by omega
  rw [m, ← (e (a % 4 + b % 4)).1, ← (e (a % 4 + b % 4)).2]
  exact k
theorem sign_abs (n : Nat) : (-1 ≤ sc n ∧ sc n ≤ 1) ∧ (-1 ≤ ss n ∧ ss n ≤ 1) := by
  unfold sc ss
  repeat' split
  all_goals grind
/-- The partial sums. -/
def Cn (N : Nat) (x : Rat) : Rat := sm (fun k => sc k * P k x) (N + 1)
def Sn (N : Nat) (x : Rat) : Rat := sm (fun k => ss k * P k x) (N + 1)
def En (N : Nat) (x : Rat) : Rat := sm (fun k => P k x) (N + 1)
/-- A product of two sums, summed by diagonals, with any weights of their indexes' sum. -/
theorem prod (g : Nat → Rat) (N : Nat) (x y : Rat) : sm (fun a => sm (fun b => g (a + b) * (P a x * P b y)) (N + 1)) (N + 1) = sm (fun n => g n * P n (x + y)) (N + 1) + sm (fun a => sm (fun j => g (N + 1 + j) * (P a x * P (N + 1 - a + j) y)) a) (N + 1) := by
  rw [square (fun a b => g (a + b) * (P a x * P b y)) N]
  congr 1
  · refine sm_congr fun n hn => ?_
    rw [binom, ← sm_mul]
    refine sm_congr fun a ha => ?_
    have : a + (n - a) = n := by omega
    rw [this]
  · refine sm_congr fun a ha => sm_congr fun j hj => ?_
    have : a + (N + 1 - a + j) = N + 1 + j := by omega
    rw [this]
theorem sm_prod (f h : Nat → Rat) (m : Nat) : ∀ n, sm f n * sm h m = sm (fun a => sm (fun b => f a * h b) m) n
  | 0 => by unfold sm; grind
  | n + 1 => by
    rw [sm, sm, ← sm_prod f h m n, sm_mul]
    grind
/-- What a product lacks. -/
def rest (N : Nat) (X : Rat) : Rat := En N X * En N X - En N (X + X)
theorem rest_eq (N : Nat) (X : Rat) : rest N X = sm (fun a => sm (fun j => P a X * P (N + 1 - a + j) X) a) (N + 1) := by
  have h := prod (fun _ => 1) N X X
  have e : sm (fun a => sm (fun b => (1 : Rat) * (P a X * P b X)) (N + 1)) (N + 1) = En N X * En N X := by
    unfold En
    rw [sm_prod]
    exact sm_congr fun a _ => sm_congr fun b _ => by grind
  have e2 : sm (fun n => (1 : Rat) * P n (X + X)) (N + 1) = En N (X + X) := sm_congr fun n _ => by grind
  have e3 : sm (fun a => sm (fun j => (1 : Rat) * (P a X * P (N + 1 - a + j) X)) a) (N + 1) = sm (fun a => sm (fun j => P a X * P (N + 1 - a + j) X) a) (N + 1) := sm_congr fun a _ => sm_congr fun j _ => by grind
  rw [e, e2, e3] at h
  unfold rest
  grind
theorem tail_abs (g : Nat → Rat) (hg : ∀ n, -1 ≤ g n ∧ g n ≤ 1) (N : Nat) {x y X : Rat} (h1 : -X ≤ x) (h2 : x ≤ X) (h3 : -X ≤ y) (h4 : y ≤ X) :
    - rest N X ≤ sm (fun a => sm (fun j => g (N + 1 + j) * (P a x * P (N + 1 - a + j) y)) a) (N + 1) ∧ sm (fun a => sm (fun j => g (N + 1 + j) * (P a x * P (N + 1 - a + j) y)) a) (N + 1) ≤ rest N X := by
  rw [rest_eq]
  refine sm_abs fun a _ => sm_abs fun j _ => ?_
  have p := P_abs h1 h2 a
  have q := P_abs h3 h4 (N + 1 - a + j)
  have m := mul_abs p.1 p.2 q.1 q.2
  have s := hg (N + 1 + j)
  have := mul_abs s.1 s.2 m.1 m.2
  grind
/-- **The addition theorem**, but for the rest. -/
theorem addition (N : Nat) {x y X : Rat} (h1 : -X ≤ x) (h2 : x ≤ X) (h3 : -X ≤ y) (h4 : y ≤ X) :
    (- rest N X ≤ Cn N x * Cn N y - Sn N x * Sn N y - Cn N (x + y) ∧ Cn N x * Cn N y - Sn N x * Sn N y - Cn N (x + y) ≤ rest N X) ∧
    (- rest N X ≤ Sn N x * Cn N y + Cn N x * Sn N y - Sn N (x + y) ∧ Sn N x * Cn N y + Cn N x * Sn N y - Sn N (x + y) ≤ rest N X) := by
  have hc := prod sc N x y
  have hs := prod ss N x y
  have ec : sm (fun a => sm (fun b => sc (a + b) * (P a x * P b y)) (N + 1)) (N + 1) = Cn N x * Cn N y - Sn N x * Sn N y := by
    unfold Cn Sn
    rw [sm_prod, sm_prod, ← sm_sub]
    refine sm_congr fun a _ => ?_
    rw [← sm_sub]
    refine sm_congr fun b _ => ?_
    rw [(signs a b).1]
    grind
  have es : sm (fun a => sm (fun b => ss (a + b) * (P a x * P b y)) (N + 1)) (N + 1) = Sn N x * Cn N y + Cn N x * Sn N y := by
    unfold Cn Sn
    rw [sm_prod, sm_prod, ← sm_add]
    refine sm_congr fun a _ => ?_
    rw [← sm_add]
    refine sm_congr fun b _ => ?_
    rw [(signs a b).2]
    grind
  have tc := tail_abs sc (fun n => (sign_abs n).1) N h1 h2 h3 h4
  have ts := tail_abs ss (fun n => (sign_abs n).2) N h1 h2 h3 h4
  rw [ec] at hc
  rw [es] at hs
  have fc : sm (fun n => sc n * P n (x + y)) (N + 1) = Cn N (x + y) := rfl
  have fs : sm (fun n => ss n * P n (x + y)) (N + 1) = Sn N (x + y) := rfl
  rw [fc] at hc
  rw [fs] at hs
  constructor <;> constructor <;> grind
end TA
end Go.Proofs.YtfilgpifiboccaaGreat
namespace Go.Proofs.YtfilgpifiboccaaGreat
namespace TA
open SM
theorem sS_eq (x : Rat) : x * (1 - hR 1 (x * x) 10 0) = Sn 21 x := by
  simp [hR, Sn, sm, ss, P]
  grind
theorem sC_eq (x : Rat) : 1 - hR 0 (x * x) 10 0 = Cn 20 x := by
  simp [hR, Cn, sm, sc, P]
  grind
theorem tail_of (g : Nat → Rat) (hg : ∀ n, -1 ≤ g n ∧ g n ≤ 1) (m n : Nat) {x X : Rat} (h1 : -X ≤ x) (h2 : x ≤ X) :
    -(En (m + n) X - En m X) ≤ sm (fun k => g k * P k x) (m + n + 1) - sm (fun k => g k * P k x) (m + 1) ∧ sm (fun k => g k * P k x) (m + n + 1) - sm (fun k => g k * P k x) (m + 1) ≤ En (m + n) X - En m X := by
  have e : m + n + 1 = m + 1 + n := by omega
  have s1 := sm_split (fun k => g k * P k x) (m + 1) n
  have s2 := sm_split (fun k => P k X) (m + 1) n
  have b := sm_abs (f := fun i => g (m + 1 + i) * P (m + 1 + i) x) (g := fun i => P (m + 1 + i) X) (n := n) (fun i _ => by
    have p := P_abs h1 h2 (m + 1 + i)
    have := mul_abs (hg (m + 1 + i)).1 (hg (m + 1 + i)).2 p.1 p.2
    grind)
  unfold En
  rw [e, s1, s2]
  grind
theorem P_neg (x : Rat) : ∀ n, P n (-x) = if n % 2 = 0 then P n x else - P n x
  | 0 => by simp [P]
  | n + 1 => by
    have ih := P_neg x n
    show P n (-x) * (-x) / ((n : Rat) + 1) = if (n + 1) % 2 = 0 then P n x * x / ((n : Rat) + 1) else -(P n x * x / ((n : Rat) + 1))
    rw [ih]
    by_cases h : n % 2 = 0
    · have : ¬ (n + 1) % 2 = 0 := by omega
      rw [if_pos h, if_neg this]
      grind
    · have : (n + 1) % 2 = 0 := by omega
      rw [if_neg h, if_pos this]
      grind
theorem Cn_neg (N : Nat) (x : Rat) : Cn N (-x) = Cn N x := by
  refine sm_congr fun k _ => ?_
  rw [P_neg]
  unfold sc
  repeat' split
  all_goals first | grind | omega
theorem Sn_neg (N : Nat) (x : Rat) : Sn N (-x) = - Sn N x := by
  unfold Sn
  rw [← sm_neg]
  refine sm_congr fun k _ => ?_
  rw [P_neg]
  unfold ss
  repeat' split
  all_goals first | grind | omega
theorem rest_100 : rest 100 (32 / 5) ≤ 1 / 2 ^ 150 := by decide +kernel
theorem tail_21 : En 100 (4 / 5) - En 21 (4 / 5) ≤ 1 / 2 ^ 70 := by decide +kernel
theorem tail_20 : En 100 (4 / 5) - En 20 (4 / 5) ≤ 1 / 2 ^ 70 := by decide +kernel
theorem at_turn : (-(1 / 2 ^ 90) ≤ Cn 100 (th * 21600000) - 1 ∧ Cn 100 (th * 21600000) - 1 ≤ 1 / 2 ^ 90) ∧ (-(1 / 2 ^ 90) ≤ Sn 100 (th * 21600000) ∧ Sn 100 (th * 21600000) ≤ 1 / 2 ^ 90) := by decide +kernel
theorem at_quarter : (-(1 / 2 ^ 90) ≤ Cn 100 (th * 5400000) ∧ Cn 100 (th * 5400000) ≤ 1 / 2 ^ 90) ∧ (-(1 / 2 ^ 90) ≤ Sn 100 (th * 5400000) - 1 ∧ Sn 100 (th * 5400000) - 1 ≤ 1 / 2 ^ 90) := by decide +kernel
theorem Cn_zero : Cn 100 0 = 1 := by decide +kernel
/-- The parts are not great. -/
theorem part_bd {x : Rat} (h1 : -(32 / 5) ≤ x) (h2 : x ≤ 32 / 5) : (-2 ≤ Cn 100 x ∧ Cn 100 x ≤ 2) ∧ (-2 ≤ Sn 100 x ∧ Sn 100 x ≤ 2) := by
  have a := (addition 100 (x := x) (y := -x) (X := 32 / 5) h1 h2 (by grind) (by grind)).1
  rw [Cn_neg, Sn_neg, show x + -x = 0 by grind, Cn_zero] at a
  have r := rest_100
  have s1 : 0 ≤ Cn 100 x * Cn 100 x := by have := mul_self_nonneg' (Cn 100 x); exact this
  have s2 : 0 ≤ Sn 100 x * Sn 100 x := by have := mul_self_nonneg' (Sn 100 x); exact this
  have k : ∀ z : Rat, z * z ≤ 2 → -2 ≤ z ∧ z ≤ 2 := fun z hz => by
    constructor
    · rcases (Rat.le_total : -2 ≤ z ∨ z ≤ -2) with h | h
      · exact h
      · have : 0 ≤ (-2 - z) * (-2 - z) := mul_self_nonneg' _
        have : 0 ≤ (-2 - z) * (2 - z) := Rat.mul_nonneg (by grind) (by grind)
        grind
    · rcases (Rat.le_total : z ≤ 2 ∨ 2 ≤ z) with h | h
      · exact h
      · have : 0 ≤ (z - 2) * (z + 2) := Rat.mul_nonneg (by grind) (by grind)
        grind
  exact ⟨k _ (by grind), k _ (by grind)⟩
where
  mul_self_nonneg' (z : Rat) : 0 ≤ z * z := by
    rcases (Rat.le_total : 0 ≤ z ∨ z ≤ 0) with h | h
    · exact Rat.mul_nonneg h h
    · have := Rat.mul_nonneg (a := -z) (b := -z) (by grind) (by grind)
      grind
end TA
end Go.Proofs.YtfilgpifiboccaaGreat
namespace Go.Proofs.YtfilgpifiboccaaGreat
namespace TA
open SM
/-- The angle of the same direction from half a turn below 0 on. -/
def rd (n : Int) : Int := (n + 10800000) % 21600000 - 10800000
def sinQ (n : Int) : Rat := Sn 100 (th * (rd n : Rat))
def cosQ (n : Int) : Rat := Cn 100 (th * (rd n : Rat))
def eta : Rat := 1 / 2 ^ 85
theorem th_bd : 0 ≤ th ∧ th * 10800000 ≤ 16 / 5 := by decide +kernel
theorem rd_bd (n : Int) : -(16 / 5) ≤ th * (rd n : Rat) ∧ th * (rd n : Rat) ≤ 16 / 5 := by
  have h1 : -10800000 ≤ rd n ∧ rd n ≤ 10800000 := by unfold rd; omega
  have h2 : ((-10800000 : Int) : Rat) ≤ (rd n : Rat) := Rat.intCast_le_intCast.2 h1.1
  have h3 : (rd n : Rat) ≤ ((10800000 : Int) : Rat) := Rat.intCast_le_intCast.2 h1.2
  have e2 : ((-10800000 : Int) : Rat) = -10800000 := rfl
  have e3 : ((10800000 : Int) : Rat) = 10800000 := rfl
  rw [e2] at h2
  rw [e3] at h3
  have t := th_bd
  have m1 : 0 ≤ th * (10800000 - (rd n : Rat)) := Rat.mul_nonneg t.1 (by grind)
  have m2 : 0 ≤ th * ((rd n : Rat) + 10800000) := Rat.mul_nonneg t.1 (by grind)
  constructor <;> grind
theorem bound2 (n : Int) : (-2 ≤ cosQ n ∧ cosQ n ≤ 2) ∧ (-2 ≤ sinQ n ∧ sinQ n ≤ 2) := by
  have := rd_bd n
  exact part_bd (by grind) (by grind)
theorem near_mul {z c k : Rat} (hz : -2 ≤ z ∧ z ≤ 2) (hc : -k ≤ c ∧ c ≤ k) : -(2 * k) ≤ z * c ∧ z * c ≤ 2 * k := mul_abs hz.1 hz.2 hc.1 hc.2
/-- A whole turn more or less. -/
theorem turned {x t : Rat} (ht : t = th * 21600000 ∨ t = -(th * 21600000)) (h1 : -(32 / 5) ≤ x) (h2 : x ≤ 32 / 5) :
    (-(1 / 2 ^ 87) ≤ Cn 100 (x + t) - Cn 100 x ∧ Cn 100 (x + t) - Cn 100 x ≤ 1 / 2 ^ 87) ∧ (-(1 / 2 ^ 87) ≤ Sn 100 (x + t) - Sn 100 x ∧ Sn 100 (x + t) - Sn 100 x ≤ 1 / 2 ^ 87) := by
  have q := th_bd
  have hb : -(32 / 5) ≤ t ∧ t ≤ 32 / 5 := by rcases ht with rfl | rfl <;> constructor <;> grind
  have a := addition 100 (x := x) (y := t) (X := 32 / 5) h1 h2 hb.1 hb.2
  have r := rest_100
  have w := at_turn
  have hc : -(1 / 2 ^ 90) ≤ Cn 100 t - 1 ∧ Cn 100 t - 1 ≤ 1 / 2 ^ 90 := by
    rcases ht with rfl | rfl
    · exact w.1
    · rw [Cn_neg]; exact w.1
  have hs : -(1 / 2 ^ 90) ≤ Sn 100 t ∧ Sn 100 t ≤ 1 / 2 ^ 90 := by
    rcases ht with rfl | rfl
    · exact w.2
    · rw [Sn_neg]; grind
  have p := part_bd h1 h2
  have m1 := near_mul p.1 hc
  have m2 := near_mul p.2 hs
  have m3 := near_mul p.2 hc
  have m4 := near_mul p.1 hs
  refine ⟨⟨?_, ?_⟩, ?_, ?_⟩ <;> grind
/-- **The addition theorem** for angles. -/
theorem addQ (m n : Int) : (-eta ≤ cosQ m * cosQ n - sinQ m * sinQ n - cosQ (m + n) ∧ cosQ m * cosQ n - sinQ m * sinQ n - cosQ (m + n) ≤ eta) ∧
    (-eta ≤ sinQ m * cosQ n + cosQ m * sinQ n - sinQ (m + n) ∧ sinQ m * cosQ n + cosQ m * sinQ n - sinQ (m + n) ≤ eta) := by
  have hx := rd_bd m
  have hy := rd_bd n
  have a := addition 100 (x := th * (rd m : Rat)) (y := th * (rd n : Rat)) (X := 32 / 5) (by grind) (by grind) (by grind) (by grind)
  have r := rest_100
  have d : rd (m + n) = rd m + rd n ∨ rd (m + n) = rd m + rd n + 21600000 ∨ rd (m + n) = rd m + rd n - 21600000 := by unfold rd; omega
  have s0 : -(32 / 5) ≤ th * (rd m : Rat) + th * (rd n : Rat) ∧ th * (rd m : Rat) + th * (rd n : Rat) ≤ 32 / 5 := by constructor <;> grind
  have z21 : ((21600000 : Int) : Rat) = 21600000 := rfl
  unfold cosQ sinQ eta
  rcases d with e | e | e
  · have e1 : th * (rd (m + n) : Rat) = th * (rd m : Rat) + th * (rd n : Rat) := by rw [e, Rat.intCast_add]; grind
    rw [e1]
    grind
  · have e1 : th * (rd (m + n) : Rat) = (th * (rd m : Rat) + th * (rd n : Rat)) + th * 21600000 := by rw [e, Rat.intCast_add, Rat.intCast_add, z21]; grind
    have w := turned (x := th * (rd m : Rat) + th * (rd n : Rat)) (.inl rfl) s0.1 s0.2
    rw [← e1] at w
    grind
  · have e1 : th * (rd (m + n) : Rat) = (th * (rd m : Rat) + th * (rd n : Rat)) + -(th * 21600000) := by rw [e, Rat.intCast_sub, Rat.intCast_add, z21]; grind
    have w := turned (x := th * (rd m : Rat) + th * (rd n : Rat)) (.inr rfl) s0.1 s0.2
    rw [← e1] at w
    grind
theorem quarterQ : (-(1 / 2 ^ 90) ≤ cosQ 5400000 ∧ cosQ 5400000 ≤ 1 / 2 ^ 90) ∧ (-(1 / 2 ^ 90) ≤ sinQ 5400000 - 1 ∧ sinQ 5400000 - 1 ≤ 1 / 2 ^ 90) := by
  have e : (rd 5400000 : Rat) = 5400000 := by decide +kernel
  unfold cosQ sinQ
  rw [e]
  exact at_quarter
theorem halfQ : (-(1 / 2 ^ 83) ≤ cosQ 10800000 + 1 ∧ cosQ 10800000 + 1 ≤ 1 / 2 ^ 83) ∧ (-(1 / 2 ^ 83) ≤ sinQ 10800000 ∧ sinQ 10800000 ≤ 1 / 2 ^ 83) := by
  have a := addQ 5400000 5400000
  have q := quarterQ
  rw [show (5400000 : Int) + 5400000 = 10800000 by rfl] at a
  unfold eta at a
  have m1 := mul_abs q.1.1 q.1.2 q.1.1 q.1.2
  have m2 := mul_abs q.2.1 q.2.2 q.2.1 q.2.2
  have m3 := mul_abs q.1.1 q.1.2 q.2.1 q.2.2
  refine ⟨⟨?_, ?_⟩, ?_, ?_⟩ <;> grind
theorem negQ (n : Int) : (-(1 / 2 ^ 82) ≤ cosQ (-n) - cosQ n ∧ cosQ (-n) - cosQ n ≤ 1 / 2 ^ 82) ∧ (-(1 / 2 ^ 82) ≤ sinQ (-n) + sinQ n ∧ sinQ (-n) + sinQ n ≤ 1 / 2 ^ 82) := by
  by_cases h : rd n = -10800000
  · have h2 : rd (-n) = -10800000 := by unfold rd at *; omega
    have h3 : rd 10800000 = -10800000 := by decide
    have q := halfQ
    unfold cosQ sinQ at *
    rw [h, h2]
    rw [h3] at q
    refine ⟨⟨?_, ?_⟩, ?_, ?_⟩ <;> grind
  · have h2 : rd (-n) = - rd n := by unfold rd at *; omega
    unfold cosQ sinQ
    rw [h2, Rat.intCast_neg, show th * -(rd n : Rat) = -(th * (rd n : Rat)) by grind, Cn_neg, Sn_neg]
    refine ⟨⟨?_, ?_⟩, ?_, ?_⟩ <;> grind
/-- A quarter of a turn less. -/
theorem coQ (n : Int) : (-(1 / 2 ^ 80) ≤ sinQ (5400000 - n) - cosQ n ∧ sinQ (5400000 - n) - cosQ n ≤ 1 / 2 ^ 80) ∧ (-(1 / 2 ^ 80) ≤ cosQ (5400000 - n) - sinQ n ∧ cosQ (5400000 - n) - sinQ n ≤ 1 / 2 ^ 80) := by
  have a := addQ 5400000 (-n)
  have g := negQ n
  have q := quarterQ
  have b := bound2 (-n)
  rw [show (5400000 : Int) + -n = 5400000 - n by omega] at a
  unfold eta at a
  have m1 := near_mul b.1 q.1
  have m2 := near_mul b.1 q.2
  have m3 := near_mul b.2 q.1
  have m4 := near_mul b.2 q.2
  refine ⟨⟨?_, ?_⟩, ?_, ?_⟩ <;> grind
theorem tailS (m n N : Nat) (hN : m + n = N) {x X : Rat} (h1 : -X ≤ x) (h2 : x ≤ X) {d : Rat} (hd : En N X - En m X ≤ d) : -d ≤ Sn N x - Sn m x ∧ Sn N x - Sn m x ≤ d := by
  subst hN
  have t := tail_of ss (fun n => (sign_abs n).2) m n h1 h2
  unfold Sn
  exact ⟨by grind, by grind⟩
theorem tailC (m n N : Nat) (hN : m + n = N) {x X : Rat} (h1 : -X ≤ x) (h2 : x ≤ X) {d : Rat} (hd : En N X - En m X ≤ d) : -d ≤ Cn N x - Cn m x ∧ Cn N x - Cn m x ≤ d := by
  subst hN
  have t := tail_of sc (fun n => (sign_abs n).1) m n h1 h2
  unfold Cn
  exact ⟨by grind, by grind⟩
/-- The program's polynomials are near. -/
theorem near_T (n : Nat) (h : n ≤ 5400000) : -(1 / 2 ^ 65) ≤ sinQ (n : Int) - T n ∧ sinQ (n : Int) - T n ≤ 1 / 2 ^ 65 := by
  have key : ∀ k : Nat, k ≤ 2700000 → (-(1 / 2 ^ 70) ≤ sinQ (k : Int) - tS k ∧ sinQ (k : Int) - tS k ≤ 1 / 2 ^ 70) ∧ (-(1 / 2 ^ 70) ≤ cosQ (k : Int) - tC k ∧ cosQ (k : Int) - tC k ≤ 1 / 2 ^ 70) := fun k hk => by
    have e : rd (k : Int) = (k : Int) := by unfold rd; omega
    have ek : ((k : Int) : Rat) = (k : Rat) := rfl
    have hx : xR k = th * (k : Rat) := rfl
    have b0 : (0 : Rat) ≤ (k : Rat) := by exact_mod_cast Nat.zero_le k
    have b1 : (k : Rat) ≤ ((2700000 : Nat) : Rat) := by exact_mod_cast hk
    have z : ((2700000 : Nat) : Rat) = 2700000 := rfl
    rw [z] at b1
    have t : th * 2700000 ≤ 4 / 5 := by decide +kernel
    have t0 := th_bd.1
    have m0 : 0 ≤ th * (k : Rat) := Rat.mul_nonneg t0 b0
    have m1 : 0 ≤ th * (2700000 - (k : Rat)) := Rat.mul_nonneg t0 (by grind)
    have s := tailS 21 79 100 rfl (x := th * (k : Rat)) (X := 4 / 5) (by grind) (by grind) tail_21
    have c := tailC 20 80 100 rfl (x := th * (k : Rat)) (X := 4 / 5) (by grind) (by grind) tail_20
    have es : tS k = Sn 21 (th * (k : Rat)) := by unfold tS; rw [hx, sS_eq]
    have ec : tC k = Cn 20 (th * (k : Rat)) := by unfold tC; rw [hx, sC_eq]
    unfold sinQ cosQ
    rw [e, ek, es, ec]
    exact ⟨s, c⟩
  have w0 : ∀ {a b : Rat}, (-(1 / 2 ^ 70) ≤ a - b ∧ a - b ≤ 1 / 2 ^ 70) → -(1 / 2 ^ 65) ≤ a - b ∧ a - b ≤ 1 / 2 ^ 65 := fun h => ⟨by grind, by grind⟩
  have w1 : ∀ {a b c : Rat}, (-(1 / 2 ^ 70) ≤ a - b ∧ a - b ≤ 1 / 2 ^ 70) → (-(1 / 2 ^ 80) ≤ c - a ∧ c - a ≤ 1 / 2 ^ 80) → -(1 / 2 ^ 65) ≤ c - b ∧ c - b ≤ 1 / 2 ^ 65 := fun h g => ⟨by grind, by grind⟩
  by_cases hk : n ≤ 2700000
  · have e : T n = tS n := by unfold T; rw [if_pos hk]
    rw [e]
    exact w0 (key n hk).1
  · have e : T n = tC (5400000 - n) := by unfold T; rw [if_neg hk]
    have k := (key (5400000 - n) (by omega)).2
    have c := (coQ ((5400000 - n : Nat) : Int)).1
    have e2 : (5400000 : Int) - ((5400000 - n : Nat) : Int) = (n : Int) := by omega
    rw [e2] at c
    rw [e]
    exact w1 k c
end TA
end Go.Proofs.YtfilgpifiboccaaGreat
