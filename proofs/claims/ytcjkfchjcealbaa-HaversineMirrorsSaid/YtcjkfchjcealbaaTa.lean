/-
  The addition theorem of truncated sines and cosines, with its error. No program here. The sine and the cosine of any angle, as numbers near enough: their addition theorem, and that the program's bounds enclose them. No program here. Sine and cosine of any integer angle: the addition theorem, quarters of a turn, and the program's bounds. No program here. The program's bounds of sines and arcs, against the sine itself: for every integer angle. No program here. What an enclosure has: sums, differences, products of fixed-point intervals, sines and haversines, against the true values. No program here. The spherical triangle by haversines: the true zenith distance, and whole angles around it. No program here. Zenith distances by haversines: no error comes; the true zenith distance is between the ends; the angle at the zenith has no error but that of the pole. No program here.
-/
import Derived.Test.YtcjkfchjcealbaaT54
import Derived.Test.YtcjkfchjcealbaaMo
import Derived.Test.YtcjkfchjcealbaaZ1
namespace Go.Proofs.Ytcjkfchjcealbaa
namespace TA
/-- The sum of f i for i below n. -/
def sm (f : Nat → Rat) : Nat → Rat
  | 0 => 0
  | n + 1 => sm f n + f n
theorem sm_congr {f g : Nat → Rat} : ∀ {n : Nat}, (∀ i, i < n → f i = g i) → sm f n = sm g n
  | 0, _ => rfl
  | n + 1, h => by
    unfold sm
    rw [sm_congr (fun i hi => h i (by omega)), h n (by omega)]
theorem sm_add (f g : Nat → Rat) : ∀ n, sm (fun i => f i + g i) n = sm f n + sm g n
  | 0 => by unfold sm; grind
  | n + 1 => by unfold sm; rw [sm_add f g n]; grind
theorem sm_mul (c : Rat) (f : Nat → Rat) : ∀ n, sm (fun i => c * f i) n = c * sm f n
  | 0 => by unfold sm; grind
  | n + 1 => by unfold sm; rw [sm_mul c f n]; grind
theorem sm_sub (f g : Nat → Rat) : ∀ n, sm (fun i => f i - g i) n = sm f n - sm g n
  | 0 => by unfold sm; grind
  | n + 1 => by unfold sm; rw [sm_sub f g n]; grind
theorem sm_first (f : Nat → Rat) : ∀ n, sm f (n + 1) = f 0 + sm (fun i => f (i + 1)) n
  | 0 => by unfold sm; unfold sm; grind
  | n + 1 => by
    rw [sm, sm_first f n, sm]
    grind
theorem sm_split (f : Nat → Rat) (m : Nat) : ∀ n, sm f (m + n) = sm f m + sm (fun i => f (m + i)) n
  | 0 => by simp [sm]; grind
  | n + 1 => by
    rw [← Nat.add_assoc, sm, sm_split f m n, sm]
    grind
theorem sm_le {f g : Nat → Rat} : ∀ {n : Nat}, (∀ i, i < n → f i ≤ g i) → sm f n ≤ sm g n
  | 0, _ => by unfold sm; grind
  | n + 1, h => by
    unfold sm
    have := sm_le (f := f) (g := g) (n := n) (fun i hi => h i (by omega))
    have := h n (by omega)
    grind
theorem sm_neg (f : Nat → Rat) : ∀ n, sm (fun i => - f i) n = - sm f n
  | 0 => by unfold sm; grind
  | n + 1 => by unfold sm; rw [sm_neg f n]; grind
theorem sm_abs {f g : Nat → Rat} {n : Nat} (h : ∀ i, i < n → - g i ≤ f i ∧ f i ≤ g i) : - sm g n ≤ sm f n ∧ sm f n ≤ sm g n := by
  refine ⟨?_, sm_le fun i hi => (h i hi).2⟩
  rw [← sm_neg]
  exact sm_le fun i hi => (h i hi).1
/-- A triangle summed by rows, and by diagonals. -/
theorem tri (G : Nat → Nat → Rat) : ∀ N, sm (fun a => sm (fun b => G a b) (N + 1 - a)) (N + 1) = sm (fun n => sm (fun a => G a (n - a)) (n + 1)) (N + 1)
  | 0 => by simp [sm]
  | N + 1 => by
    have h1 : sm (fun a => sm (fun b => G a b) (N + 1 + 1 - a)) (N + 1) = sm (fun a => sm (fun b => G a b) (N + 1 - a) + G a (N + 1 - a)) (N + 1) :=
      sm_congr fun a ha => by
        have : N + 1 + 1 - a = (N + 1 - a) + 1 := by omega
        rw [this, sm]
    rw [sm, h1, sm_add, tri G N]
    have h2 : N + 1 + 1 - (N + 1) = 1 := by omega
    have h3 : sm (fun b => G (N + 1) b) 1 = G (N + 1) 0 := by simp [sm]; grind
    rw [h2, h3]
    conv => rhs; rw [sm]
    have h4 : sm (fun a => G a (N + 1 - a)) (N + 1 + 1) = sm (fun a => G a (N + 1 - a)) (N + 1) + G (N + 1) 0 := by
      rw [sm]; simp
    rw [h4]
    grind
/-- A square is its triangle and the rest. -/
theorem square (G : Nat → Nat → Rat) (N : Nat) : sm (fun a => sm (fun b => G a b) (N + 1)) (N + 1) = sm (fun n => sm (fun a => G a (n - a)) (n + 1)) (N + 1) + sm (fun a => sm (fun j => G a (N + 1 - a + j)) a) (N + 1) := by
  rw [← tri, ← sm_add]
  refine sm_congr fun a ha => ?_
  have := sm_split (fun b => G a b) (N + 1 - a) a
  rw [← this]
  congr 1
  omega
def P : Nat → Rat → Rat
  | 0, _ => 1
  | n + 1, x => P n x * x / ((n : Rat) + 1)
theorem pos (n : Nat) : (0 : Rat) < (n : Rat) + 1 := by
  have : (0 : Rat) ≤ (n : Rat) := by exact_mod_cast Nat.zero_le n
  grind
theorem P_succ (n : Nat) (x : Rat) : ((n : Rat) + 1) * P (n + 1) x = x * P n x := by
  have := pos n
  show ((n : Rat) + 1) * (P n x * x / ((n : Rat) + 1)) = x * P n x
  grind
theorem cancel {k a b : Rat} (hk : 0 < k) (h : k * a = k * b) : a = b := by
  have h1 : k * (a - b) = 0 := by grind
  have h2 : k ≠ 0 := by grind
  grind
/-- The binomial law. -/
theorem binom (x y : Rat) : ∀ n, P n (x + y) = sm (fun a => P a x * P (n - a) y) (n + 1)
  | 0 => by simp [sm, P]; grind
  | n + 1 => by
    have ih := binom x y n
    have hp := pos n
    have h1 : ((n : Rat) + 1) * sm (fun a => P a x * P (n + 1 - a) y) (n + 1 + 1) = sm (fun a => (a : Rat) * P a x * P (n + 1 - a) y) (n + 1 + 1) + sm (fun a => P a x * (((n + 1 - a : Nat) : Rat) * P (n + 1 - a) y)) (n + 1 + 1) := by
      rw [← sm_mul, ← sm_add]
      refine sm_congr fun a ha => ?_
      have : ((n + 1 - a : Nat) : Rat) = (n : Rat) + 1 - (a : Rat) := by
        have e : n + 1 - a + a = n + 1 := by omega
        have : ((n + 1 - a + a : Nat) : Rat) = ((n + 1 : Nat) : Rat) := by rw [e]
        push_cast at this
        grind
      rw [this]
      grind
    have h2 : sm (fun a => (a : Rat) * P a x * P (n + 1 - a) y) (n + 1 + 1) = x * sm (fun a => P a x * P (n - a) y) (n + 1) := by
      rw [sm_first, ← sm_mul]
      have z : ((0 : Nat) : Rat) = 0 := rfl
      have : sm (fun i => ((i + 1 : Nat) : Rat) * P (i + 1) x * P (n + 1 - (i + 1)) y) (n + 1) = sm (fun i => x * (P i x * P (n - i) y)) (n + 1) := sm_congr fun i hi => by
        have := P_succ i x
        have e : n + 1 - (i + 1) = n - i := by omega
        rw [e]
        push_cast
        grind
      rw [this, z]
      grind
    have h3 : sm (fun a => P a x * (((n + 1 - a : Nat) : Rat) * P (n + 1 - a) y)) (n + 1 + 1) = y * sm (fun a => P a x * P (n - a) y) (n + 1) := by
      rw [sm, ← sm_mul]
      have : sm (fun a => P a x * (((n + 1 - a : Nat) : Rat) * P (n + 1 - a) y)) (n + 1) = sm (fun i => y * (P i x * P (n - i) y)) (n + 1) := sm_congr fun i hi => by
        have e : n + 1 - i = (n - i) + 1 := by omega
        have := P_succ (n - i) y
        rw [e]
        push_cast
        grind
      rw [this]
      have z : ((n + 1 - (n + 1) : Nat) : Rat) = 0 := by rw [Nat.sub_self]; rfl
      rw [z]
      grind
    have h4 := P_succ n (x + y)
    rw [ih] at h4
    refine cancel hp ?_
    rw [h1, h2, h3, h4]
    generalize sm (fun a => P a x * P (n - a) y) (n + 1) = s
    grind
/-! ### Bounds -/
theorem mul_abs {a b A B : Rat} (h1 : -A ≤ a) (h2 : a ≤ A) (h3 : -B ≤ b) (h4 : b ≤ B) : -(A * B) ≤ a * b ∧ a * b ≤ A * B := by
  have q1 : 0 ≤ (A - a) * (B + b) := Rat.mul_nonneg (by grind) (by grind)
  have q2 : 0 ≤ (A + a) * (B - b) := Rat.mul_nonneg (by grind) (by grind)
  have q3 : 0 ≤ (A - a) * (B - b) := Rat.mul_nonneg (by grind) (by grind)
  have q4 : 0 ≤ (A + a) * (B + b) := Rat.mul_nonneg (by grind) (by grind)
  constructor <;> grind
theorem P_abs {x X : Rat} (h1 : -X ≤ x) (h2 : x ≤ X) : ∀ n, - P n X ≤ P n x ∧ P n x ≤ P n X
  | 0 => by unfold P; grind
  | n + 1 => by
    have ih := P_abs h1 h2 n
    have hp := pos n
    have hm := mul_abs ih.1 ih.2 h1 h2
    have e1 := P_succ n x
    have e2 := P_succ n X
    have hq : 0 ≤ ((n : Rat) + 1) * (P (n + 1) X - P (n + 1) x) := by grind
    have hr : 0 ≤ ((n : Rat) + 1) * (P (n + 1) X + P (n + 1) x) := by grind
    have c : ∀ z : Rat, 0 ≤ ((n : Rat) + 1) * z → 0 ≤ z := fun z hz => by
      rcases (Rat.le_total : 0 ≤ z ∨ z ≤ 0) with h | h
      · exact h
      · have : 0 ≤ ((n : Rat) + 1) * (-z) := Rat.mul_nonneg (by grind) (by grind)
        have : ((n : Rat) + 1) * z = 0 := by grind
        have : z = 0 := cancel hp (by grind)
        grind
    have := c _ hq
    have := c _ hr
    grind
theorem P_nonneg {X : Rat} (h : 0 ≤ X) (n : Nat) : 0 ≤ P n X := by
  have := P_abs (x := X) (X := X) (by grind) (by grind) n
  grind
/-- The signs of the cosine's and the sine's series. -/
def sc (n : Nat) : Rat := if n % 4 = 0 then 1 else if n % 4 = 2 then -1 else 0
def ss (n : Nat) : Rat := if n % 4 = 1 then 1 else if n % 4 = 3 then -1 else 0
theorem signs (a b : Nat) : sc (a + b) = sc a * sc b - ss a * ss b ∧ ss (a + b) = ss a * sc b + sc a * ss b := by
  have h0 : ∀ i j : Fin 4, (sc (i.val + j.val) = sc i.val * sc j.val - ss i.val * ss j.val ∧ ss (i.val + j.val) = ss i.val * sc j.val + sc i.val * ss j.val) := by decide +kernel
  have h : ∀ i j : Nat, i < 4 → j < 4 → (sc (i + j) = sc i * sc j - ss i * ss j ∧ ss (i + j) = ss i * sc j + sc i * ss j) := fun i j hi hj => h0 ⟨i, hi⟩ ⟨j, hj⟩
  have e : ∀ n : Nat, sc n = sc (n % 4) ∧ ss n = ss (n % 4) := fun n => by unfold sc ss; simp
  have k := h (a % 4) (b % 4) (by omega) (by omega)
  rw [(e (a + b)).1, (e (a + b)).2, (e a).1, (e a).2, (e b).1, (e b).2]
  have m : (a + b) % 4 = (a % 4 + b % 4) % 4 := by omega
  rw [m, ← (e (a % 4 + b % 4)).1, ← (e (a % 4 + b % 4)).2]
  exact k
theorem sign_abs (n : Nat) : (-1 ≤ sc n ∧ sc n ≤ 1) ∧ (-1 ≤ ss n ∧ ss n ≤ 1) := by
  unfold sc ss
  repeat' split
  all_goals grind
/-- The partial sums. -/
def Cn (N : Nat) (x : Rat) : Rat := sm (fun k => sc k * P k x) (N + 1)
def Sn (N : Nat) (x : Rat) : Rat := sm (fun k => ss k * P k x) (N + 1)
def En (N : Nat) (x : Rat) : Rat := sm (fun k => P k x) (N + 1)
/-- A product of two sums, summed by diagonals, with any weights of their indexes' sum. -/
theorem prod (g : Nat → Rat) (N : Nat) (x y : Rat) : sm (fun a => sm (fun b => g (a + b) * (P a x * P b y)) (N + 1)) (N + 1) = sm (fun n => g n * P n (x + y)) (N + 1) + sm (fun a => sm (fun j => g (N + 1 + j) * (P a x * P (N + 1 - a + j) y)) a) (N + 1) := by
  rw [square (fun a b => g (a + b) * (P a x * P b y)) N]
  congr 1
  · refine sm_congr fun n hn => ?_
    rw [binom, ← sm_mul]
    refine sm_congr fun a ha => ?_
    have : a + (n - a) = n := by omega
    rw [this]
  · refine sm_congr fun a ha => sm_congr fun j hj => ?_
    have : a + (N + 1 - a + j) = N + 1 + j := by omega
    rw [this]
theorem sm_prod (f h : Nat → Rat) (m : Nat) : ∀ n, sm f n * sm h m = sm (fun a => sm (fun b => f a * h b) m) n
  | 0 => by unfold sm; grind
  | n + 1 => by
    rw [sm, sm, ← sm_prod f h m n, sm_mul]
    grind
/-- What a product lacks. -/
def rest (N : Nat) (X : Rat) : Rat := En N X * En N X - En N (X + X)
theorem rest_eq (N : Nat) (X : Rat) : rest N X = sm (fun a => sm (fun j => P a X * P (N + 1 - a + j) X) a) (N + 1) := by
  have h := prod (fun _ => 1) N X X
  have e : sm (fun a => sm (fun b => (1 : Rat) * (P a X * P b X)) (N + 1)) (N + 1) = En N X * En N X := by
    unfold En
    rw [sm_prod]
    exact sm_congr fun a _ => sm_congr fun b _ => by grind
  have e2 : sm (fun n => (1 : Rat) * P n (X + X)) (N + 1) = En N (X + X) := sm_congr fun n _ => by grind
  have e3 : sm (fun a => sm (fun j => (1 : Rat) * (P a X * P (N + 1 - a + j) X)) a) (N + 1) = sm (fun a => sm (fun j => P a X * P (N + 1 - a + j) X) a) (N + 1) := sm_congr fun a _ => sm_congr fun j _ => by grind
  rw [e, e2, e3] at h
  unfold rest
  grind
theorem tail_abs (g : Nat → Rat) (hg : ∀ n, -1 ≤ g n ∧ g n ≤ 1) (N : Nat) {x y X : Rat} (h1 : -X ≤ x) (h2 : x ≤ X) (h3 : -X ≤ y) (h4 : y ≤ X) :
    - rest N X ≤ sm (fun a => sm (fun j => g (N + 1 + j) * (P a x * P (N + 1 - a + j) y)) a) (N + 1) ∧ sm (fun a => sm (fun j => g (N + 1 + j) * (P a x * P (N + 1 - a + j) y)) a) (N + 1) ≤ rest N X := by
  rw [rest_eq]
  refine sm_abs fun a _ => sm_abs fun j _ => ?_
  have p := P_abs h1 h2 a
  have q := P_abs h3 h4 (N + 1 - a + j)
  have m := mul_abs p.1 p.2 q.1 q.2
  have s := hg (N + 1 + j)
  have := mul_abs s.1 s.2 m.1 m.2
  grind
/-- **The addition theorem**, but for the rest. -/
theorem addition (N : Nat) {x y X : Rat} (h1 : -X ≤ x) (h2 : x ≤ X) (h3 : -X ≤ y) (h4 : y ≤ X) :
    (- rest N X ≤ Cn N x * Cn N y - Sn N x * Sn N y - Cn N (x + y) ∧ Cn N x * Cn N y - Sn N x * Sn N y - Cn N (x + y) ≤ rest N X) ∧
    (- rest N X ≤ Sn N x * Cn N y + Cn N x * Sn N y - Sn N (x + y) ∧ Sn N x * Cn N y + Cn N x * Sn N y - Sn N (x + y) ≤ rest N X) := by
  have hc := prod sc N x y
  have hs := prod ss N x y
  have ec : sm (fun a => sm (fun b => sc (a + b) * (P a x * P b y)) (N + 1)) (N + 1) = Cn N x * Cn N y - Sn N x * Sn N y := by
    unfold Cn Sn
    rw [sm_prod, sm_prod, ← sm_sub]
    refine sm_congr fun a _ => ?_
    rw [← sm_sub]
    refine sm_congr fun b _ => ?_
    rw [(signs a b).1]
    grind
  have es : sm (fun a => sm (fun b => ss (a + b) * (P a x * P b y)) (N + 1)) (N + 1) = Sn N x * Cn N y + Cn N x * Sn N y := by
    unfold Cn Sn
    rw [sm_prod, sm_prod, ← sm_add]
    refine sm_congr fun a _ => ?_
    rw [← sm_add]
    refine sm_congr fun b _ => ?_
    rw [(signs a b).2]
    grind
  have tc := tail_abs sc (fun n => (sign_abs n).1) N h1 h2 h3 h4
  have ts := tail_abs ss (fun n => (sign_abs n).2) N h1 h2 h3 h4
  rw [ec] at hc
  rw [es] at hs
  have fc : sm (fun n => sc n * P n (x + y)) (N + 1) = Cn N (x + y) := rfl
  have fs : sm (fun n => ss n * P n (x + y)) (N + 1) = Sn N (x + y) := rfl
  rw [fc] at hc
  rw [fs] at hs
  constructor <;> constructor <;> grind
theorem rest_small : rest 60 (16 / 5) ≤ 1 / 2 ^ 110 := by decide +kernel
end TA
end Go.Proofs.Ytcjkfchjcealbaa
namespace Go.Proofs.Ytcjkfchjcealbaa
namespace TA
open SM
theorem sS_eq (x : Rat) : x * (1 - hR 1 (x * x) 10 0) = Sn 21 x := by
  simp [hR, Sn, sm, ss, P]
  grind
theorem sC_eq (x : Rat) : 1 - hR 0 (x * x) 10 0 = Cn 20 x := by
  simp [hR, Cn, sm, sc, P]
  grind
theorem tail_of (g : Nat → Rat) (hg : ∀ n, -1 ≤ g n ∧ g n ≤ 1) (m n : Nat) {x X : Rat} (h1 : -X ≤ x) (h2 : x ≤ X) :
    -(En (m + n) X - En m X) ≤ sm (fun k => g k * P k x) (m + n + 1) - sm (fun k => g k * P k x) (m + 1) ∧ sm (fun k => g k * P k x) (m + n + 1) - sm (fun k => g k * P k x) (m + 1) ≤ En (m + n) X - En m X := by
  have e : m + n + 1 = m + 1 + n := by omega
  have s1 := sm_split (fun k => g k * P k x) (m + 1) n
  have s2 := sm_split (fun k => P k X) (m + 1) n
  have b := sm_abs (f := fun i => g (m + 1 + i) * P (m + 1 + i) x) (g := fun i => P (m + 1 + i) X) (n := n) (fun i _ => by
    have p := P_abs h1 h2 (m + 1 + i)
    have := mul_abs (hg (m + 1 + i)).1 (hg (m + 1 + i)).2 p.1 p.2
    grind)
  unfold En
  rw [e, s1, s2]
  grind
theorem P_neg (x : Rat) : ∀ n, P n (-x) = if n % 2 = 0 then P n x else - P n x
  | 0 => by simp [P]
  | n + 1 => by
    have ih := P_neg x n
    show P n (-x) * (-x) / ((n : Rat) + 1) = if (n + 1) % 2 = 0 then P n x * x / ((n : Rat) + 1) else -(P n x * x / ((n : Rat) + 1))
    rw [ih]
    by_cases h : n % 2 = 0
    · have : ¬ (n + 1) % 2 = 0 := by omega
      rw [if_pos h, if_neg this]
      grind
    · have : (n + 1) % 2 = 0 := by omega
      rw [if_neg h, if_pos this]
      grind
theorem Cn_neg (N : Nat) (x : Rat) : Cn N (-x) = Cn N x := by
  refine sm_congr fun k _ => ?_
  rw [P_neg]
  unfold sc
  repeat' split
  all_goals first | grind | omega
theorem Sn_neg (N : Nat) (x : Rat) : Sn N (-x) = - Sn N x := by
  unfold Sn
  rw [← sm_neg]
  refine sm_congr fun k _ => ?_
  rw [P_neg]
  unfold ss
  repeat' split
  all_goals first | grind | omega
theorem rest_100 : rest 100 (32 / 5) ≤ 1 / 2 ^ 150 := by decide +kernel
theorem tail_21 : En 100 (4 / 5) - En 21 (4 / 5) ≤ 1 / 2 ^ 70 := by decide +kernel
theorem tail_20 : En 100 (4 / 5) - En 20 (4 / 5) ≤ 1 / 2 ^ 70 := by decide +kernel
theorem at_turn : (-(1 / 2 ^ 90) ≤ Cn 100 (th * 21600000) - 1 ∧ Cn 100 (th * 21600000) - 1 ≤ 1 / 2 ^ 90) ∧ (-(1 / 2 ^ 90) ≤ Sn 100 (th * 21600000) ∧ Sn 100 (th * 21600000) ≤ 1 / 2 ^ 90) := by decide +kernel
theorem at_quarter : (-(1 / 2 ^ 90) ≤ Cn 100 (th * 5400000) ∧ Cn 100 (th * 5400000) ≤ 1 / 2 ^ 90) ∧ (-(1 / 2 ^ 90) ≤ Sn 100 (th * 5400000) - 1 ∧ Sn 100 (th * 5400000) - 1 ≤ 1 / 2 ^ 90) := by decide +kernel
theorem Cn_zero : Cn 100 0 = 1 := by decide +kernel
/-- The parts are not great. -/
theorem part_bd {x : Rat} (h1 : -(32 / 5) ≤ x) (h2 : x ≤ 32 / 5) : (-2 ≤ Cn 100 x ∧ Cn 100 x ≤ 2) ∧ (-2 ≤ Sn 100 x ∧ Sn 100 x ≤ 2) := by
  have a := (addition 100 (x := x) (y := -x) (X := 32 / 5) h1 h2 (by grind) (by grind)).1
  rw [Cn_neg, Sn_neg, show x + -x = 0 by grind, Cn_zero] at a
  have r := rest_100
  have s1 : 0 ≤ Cn 100 x * Cn 100 x := by have := mul_self_nonneg' (Cn 100 x); exact this
  have s2 : 0 ≤ Sn 100 x * Sn 100 x := by have := mul_self_nonneg' (Sn 100 x); exact this
  have k : ∀ z : Rat, z * z ≤ 2 → -2 ≤ z ∧ z ≤ 2 := fun z hz => by
    constructor
    · rcases (Rat.le_total : -2 ≤ z ∨ z ≤ -2) with h | h
      · exact h
      · have : 0 ≤ (-2 - z) * (-2 - z) := mul_self_nonneg' _
        have : 0 ≤ (-2 - z) * (2 - z) := Rat.mul_nonneg (by grind) (by grind)
        grind
    · rcases (Rat.le_total : z ≤ 2 ∨ 2 ≤ z) with h | h
      · exact h
      · have : 0 ≤ (z - 2) * (z + 2) := Rat.mul_nonneg (by grind) (by grind)
        grind
  exact ⟨k _ (by grind), k _ (by grind)⟩
where
  mul_self_nonneg' (z : Rat) : 0 ≤ z * z := by
    rcases (Rat.le_total : 0 ≤ z ∨ z ≤ 0) with h | h
    · exact Rat.mul_nonneg h h
    · have := Rat.mul_nonneg (a := -z) (b := -z) (by grind) (by grind)
      grind
end TA
end Go.Proofs.Ytcjkfchjcealbaa
namespace Go.Proofs.Ytcjkfchjcealbaa
namespace TA
open SM
/-- The angle of the same direction from half a turn below 0 on. -/
def rd (n : Int) : Int := (n + 10800000) % 21600000 - 10800000
def sinQ (n : Int) : Rat := Sn 100 (th * (rd n : Rat))
def cosQ (n : Int) : Rat := Cn 100 (th * (rd n : Rat))
def eta : Rat := 1 / 2 ^ 85
theorem th_bd : 0 ≤ th ∧ th * 10800000 ≤ 16 / 5 := by decide +kernel
theorem rd_bd (n : Int) : -(16 / 5) ≤ th * (rd n : Rat) ∧ th * (rd n : Rat) ≤ 16 / 5 := by
  have h1 : -10800000 ≤ rd n ∧ rd n ≤ 10800000 := by unfold rd; omega
  have h2 : ((-10800000 : Int) : Rat) ≤ (rd n : Rat) := Rat.intCast_le_intCast.2 h1.1
  have h3 : (rd n : Rat) ≤ ((10800000 : Int) : Rat) := Rat.intCast_le_intCast.2 h1.2
  have e2 : ((-10800000 : Int) : Rat) = -10800000 := rfl
  have e3 : ((10800000 : Int) : Rat) = 10800000 := rfl
  rw [e2] at h2
  rw [e3] at h3
  have t := th_bd
  have m1 : 0 ≤ th * (10800000 - (rd n : Rat)) := Rat.mul_nonneg t.1 (by grind)
  have m2 : 0 ≤ th * ((rd n : Rat) + 10800000) := Rat.mul_nonneg t.1 (by grind)
  constructor <;> grind
theorem bound2 (n : Int) : (-2 ≤ cosQ n ∧ cosQ n ≤ 2) ∧ (-2 ≤ sinQ n ∧ sinQ n ≤ 2) := by
  have := rd_bd n
  exact part_bd (by grind) (by grind)
theorem near_mul {z c k : Rat} (hz : -2 ≤ z ∧ z ≤ 2) (hc : -k ≤ c ∧ c ≤ k) : -(2 * k) ≤ z * c ∧ z * c ≤ 2 * k := mul_abs hz.1 hz.2 hc.1 hc.2
/-- A whole turn more or less. -/
theorem turned {x t : Rat} (ht : t = th * 21600000 ∨ t = -(th * 21600000)) (h1 : -(32 / 5) ≤ x) (h2 : x ≤ 32 / 5) :
    (-(1 / 2 ^ 87) ≤ Cn 100 (x + t) - Cn 100 x ∧ Cn 100 (x + t) - Cn 100 x ≤ 1 / 2 ^ 87) ∧ (-(1 / 2 ^ 87) ≤ Sn 100 (x + t) - Sn 100 x ∧ Sn 100 (x + t) - Sn 100 x ≤ 1 / 2 ^ 87) := by
  have q := th_bd
  have hb : -(32 / 5) ≤ t ∧ t ≤ 32 / 5 := by rcases ht with rfl | rfl <;> constructor <;> grind
  have a := addition 100 (x := x) (y := t) (X := 32 / 5) h1 h2 hb.1 hb.2
  have r := rest_100
  have w := at_turn
  have hc : -(1 / 2 ^ 90) ≤ Cn 100 t - 1 ∧ Cn 100 t - 1 ≤ 1 / 2 ^ 90 := by
    rcases ht with rfl | rfl
    · exact w.1
    · rw [Cn_neg]; exact w.1
  have hs : -(1 / 2 ^ 90) ≤ Sn 100 t ∧ Sn 100 t ≤ 1 / 2 ^ 90 := by
    rcases ht with rfl | rfl
    · exact w.2
    · rw [Sn_neg]; grind
  have p := part_bd h1 h2
  have m1 := near_mul p.1 hc
  have m2 := near_mul p.2 hs
  have m3 := near_mul p.2 hc
  have m4 := near_mul p.1 hs
  refine ⟨⟨?_, ?_⟩, ?_, ?_⟩ <;> grind
/-- **The addition theorem** for angles. -/
theorem addQ (m n : Int) : (-eta ≤ cosQ m * cosQ n - sinQ m * sinQ n - cosQ (m + n) ∧ cosQ m * cosQ n - sinQ m * sinQ n - cosQ (m + n) ≤ eta) ∧
    (-eta ≤ sinQ m * cosQ n + cosQ m * sinQ n - sinQ (m + n) ∧ sinQ m * cosQ n + cosQ m * sinQ n - sinQ (m + n) ≤ eta) := by
  have hx := rd_bd m
  have hy := rd_bd n
  have a := addition 100 (x := th * (rd m : Rat)) (y := th * (rd n : Rat)) (X := 32 / 5) (by grind) (by grind) (by grind) (by grind)
  have r := rest_100
  have d : rd (m + n) = rd m + rd n ∨ rd (m + n) = rd m + rd n + 21600000 ∨ rd (m + n) = rd m + rd n - 21600000 := by unfold rd; omega
  have s0 : -(32 / 5) ≤ th * (rd m : Rat) + th * (rd n : Rat) ∧ th * (rd m : Rat) + th * (rd n : Rat) ≤ 32 / 5 := by constructor <;> grind
  have z21 : ((21600000 : Int) : Rat) = 21600000 := rfl
  unfold cosQ sinQ eta
  rcases d with e | e | e
  · have e1 : th * (rd (m + n) : Rat) = th * (rd m : Rat) + th * (rd n : Rat) := by rw [e, Rat.intCast_add]; grind
    rw [e1]
    grind
  · have e1 : th * (rd (m + n) : Rat) = (th * (rd m : Rat) + th * (rd n : Rat)) + th * 21600000 := by rw [e, Rat.intCast_add, Rat.intCast_add, z21]; grind
    have w := turned (x := th * (rd m : Rat) + th * (rd n : Rat)) (.inl rfl) s0.1 s0.2
    rw [← e1] at w
    grind
  · have e1 : th * (rd (m + n) : Rat) = (th * (rd m : Rat) + th * (rd n : Rat)) + -(th * 21600000) := by rw [e, Rat.intCast_sub, Rat.intCast_add, z21]; grind
    have w := turned (x := th * (rd m : Rat) + th * (rd n : Rat)) (.inr rfl) s0.1 s0.2
    rw [← e1] at w
    grind
theorem quarterQ : (-(1 / 2 ^ 90) ≤ cosQ 5400000 ∧ cosQ 5400000 ≤ 1 / 2 ^ 90) ∧ (-(1 / 2 ^ 90) ≤ sinQ 5400000 - 1 ∧ sinQ 5400000 - 1 ≤ 1 / 2 ^ 90) := by
  have e : (rd 5400000 : Rat) = 5400000 := by decide +kernel
  unfold cosQ sinQ
  rw [e]
  exact at_quarter
theorem halfQ : (-(1 / 2 ^ 83) ≤ cosQ 10800000 + 1 ∧ cosQ 10800000 + 1 ≤ 1 / 2 ^ 83) ∧ (-(1 / 2 ^ 83) ≤ sinQ 10800000 ∧ sinQ 10800000 ≤ 1 / 2 ^ 83) := by
  have a := addQ 5400000 5400000
  have q := quarterQ
  rw [show (5400000 : Int) + 5400000 = 10800000 by rfl] at a
  unfold eta at a
  have m1 := mul_abs q.1.1 q.1.2 q.1.1 q.1.2
  have m2 := mul_abs q.2.1 q.2.2 q.2.1 q.2.2
  have m3 := mul_abs q.1.1 q.1.2 q.2.1 q.2.2
  refine ⟨⟨?_, ?_⟩, ?_, ?_⟩ <;> grind
theorem negQ (n : Int) : (-(1 / 2 ^ 82) ≤ cosQ (-n) - cosQ n ∧ cosQ (-n) - cosQ n ≤ 1 / 2 ^ 82) ∧ (-(1 / 2 ^ 82) ≤ sinQ (-n) + sinQ n ∧ sinQ (-n) + sinQ n ≤ 1 / 2 ^ 82) := by
  by_cases h : rd n = -10800000
  · have h2 : rd (-n) = -10800000 := by unfold rd at *; omega
    have h3 : rd 10800000 = -10800000 := by decide
    have q := halfQ
    unfold cosQ sinQ at *
    rw [h, h2]
    rw [h3] at q
    refine ⟨⟨?_, ?_⟩, ?_, ?_⟩ <;> grind
  · have h2 : rd (-n) = - rd n := by unfold rd at *; omega
    unfold cosQ sinQ
    rw [h2, Rat.intCast_neg, show th * -(rd n : Rat) = -(th * (rd n : Rat)) by grind, Cn_neg, Sn_neg]
    refine ⟨⟨?_, ?_⟩, ?_, ?_⟩ <;> grind
/-- A quarter of a turn less. -/
theorem coQ (n : Int) : (-(1 / 2 ^ 80) ≤ sinQ (5400000 - n) - cosQ n ∧ sinQ (5400000 - n) - cosQ n ≤ 1 / 2 ^ 80) ∧ (-(1 / 2 ^ 80) ≤ cosQ (5400000 - n) - sinQ n ∧ cosQ (5400000 - n) - sinQ n ≤ 1 / 2 ^ 80) := by
  have a := addQ 5400000 (-n)
  have g := negQ n
  have q := quarterQ
  have b := bound2 (-n)
  rw [show (5400000 : Int) + -n = 5400000 - n by omega] at a
  unfold eta at a
  have m1 := near_mul b.1 q.1
  have m2 := near_mul b.1 q.2
  have m3 := near_mul b.2 q.1
  have m4 := near_mul b.2 q.2
  refine ⟨⟨?_, ?_⟩, ?_, ?_⟩ <;> grind
/-- Half a turn more. -/
theorem oppQ (n : Int) : (-(1 / 2 ^ 80) ≤ cosQ (n + 10800000) + cosQ n ∧ cosQ (n + 10800000) + cosQ n ≤ 1 / 2 ^ 80) ∧ (-(1 / 2 ^ 80) ≤ sinQ (n + 10800000) + sinQ n ∧ sinQ (n + 10800000) + sinQ n ≤ 1 / 2 ^ 80) := by
  have a := addQ n 10800000
  have q := halfQ
  have b := bound2 n
  unfold eta at a
  have m1 := near_mul b.1 q.1
  have m2 := near_mul b.1 q.2
  have m3 := near_mul b.2 q.1
  have m4 := near_mul b.2 q.2
  refine ⟨⟨?_, ?_⟩, ?_, ?_⟩ <;> grind
theorem turnQ (m n : Int) (h : m % 21600000 = n % 21600000) : cosQ m = cosQ n ∧ sinQ m = sinQ n := by
  have : rd m = rd n := by unfold rd; omega
  unfold cosQ sinQ
  rw [this]
  exact ⟨rfl, rfl⟩
theorem tailS (m n N : Nat) (hN : m + n = N) {x X : Rat} (h1 : -X ≤ x) (h2 : x ≤ X) {d : Rat} (hd : En N X - En m X ≤ d) : -d ≤ Sn N x - Sn m x ∧ Sn N x - Sn m x ≤ d := by
  subst hN
  have t := tail_of ss (fun n => (sign_abs n).2) m n h1 h2
  unfold Sn
  exact ⟨by grind, by grind⟩
theorem tailC (m n N : Nat) (hN : m + n = N) {x X : Rat} (h1 : -X ≤ x) (h2 : x ≤ X) {d : Rat} (hd : En N X - En m X ≤ d) : -d ≤ Cn N x - Cn m x ∧ Cn N x - Cn m x ≤ d := by
  subst hN
  have t := tail_of sc (fun n => (sign_abs n).1) m n h1 h2
  unfold Cn
  exact ⟨by grind, by grind⟩
/-- The program's polynomials are near. -/
theorem near_T (n : Nat) (h : n ≤ 5400000) : -(1 / 2 ^ 65) ≤ sinQ (n : Int) - T n ∧ sinQ (n : Int) - T n ≤ 1 / 2 ^ 65 := by
  have key : ∀ k : Nat, k ≤ 2700000 → (-(1 / 2 ^ 70) ≤ sinQ (k : Int) - tS k ∧ sinQ (k : Int) - tS k ≤ 1 / 2 ^ 70) ∧ (-(1 / 2 ^ 70) ≤ cosQ (k : Int) - tC k ∧ cosQ (k : Int) - tC k ≤ 1 / 2 ^ 70) := fun k hk => by
    have e : rd (k : Int) = (k : Int) := by unfold rd; omega
    have ek : ((k : Int) : Rat) = (k : Rat) := rfl
    have hx : xR k = th * (k : Rat) := rfl
    have b0 : (0 : Rat) ≤ (k : Rat) := by exact_mod_cast Nat.zero_le k
    have b1 : (k : Rat) ≤ ((2700000 : Nat) : Rat) := by exact_mod_cast hk
    have z : ((2700000 : Nat) : Rat) = 2700000 := rfl
    rw [z] at b1
    have t : th * 2700000 ≤ 4 / 5 := by decide +kernel
    have t0 := th_bd.1
    have m0 : 0 ≤ th * (k : Rat) := Rat.mul_nonneg t0 b0
    have m1 : 0 ≤ th * (2700000 - (k : Rat)) := Rat.mul_nonneg t0 (by grind)
    have s := tailS 21 79 100 rfl (x := th * (k : Rat)) (X := 4 / 5) (by grind) (by grind) tail_21
    have c := tailC 20 80 100 rfl (x := th * (k : Rat)) (X := 4 / 5) (by grind) (by grind) tail_20
    have es : tS k = Sn 21 (th * (k : Rat)) := by unfold tS; rw [hx, sS_eq]
    have ec : tC k = Cn 20 (th * (k : Rat)) := by unfold tC; rw [hx, sC_eq]
    unfold sinQ cosQ
    rw [e, ek, es, ec]
    exact ⟨s, c⟩
  have w0 : ∀ {a b : Rat}, (-(1 / 2 ^ 70) ≤ a - b ∧ a - b ≤ 1 / 2 ^ 70) → -(1 / 2 ^ 65) ≤ a - b ∧ a - b ≤ 1 / 2 ^ 65 := fun h => ⟨by grind, by grind⟩
  have w1 : ∀ {a b c : Rat}, (-(1 / 2 ^ 70) ≤ a - b ∧ a - b ≤ 1 / 2 ^ 70) → (-(1 / 2 ^ 80) ≤ c - a ∧ c - a ≤ 1 / 2 ^ 80) → -(1 / 2 ^ 65) ≤ c - b ∧ c - b ≤ 1 / 2 ^ 65 := fun h g => ⟨by grind, by grind⟩
  by_cases hk : n ≤ 2700000
  · have e : T n = tS n := by unfold T; rw [if_pos hk]
    rw [e]
    exact w0 (key n hk).1
  · have e : T n = tC (5400000 - n) := by unfold T; rw [if_neg hk]
    have k := (key (5400000 - n) (by omega)).2
    have c := (coQ ((5400000 - n : Nat) : Int)).1
    have e2 : (5400000 : Int) - ((5400000 - n : Nat) : Int) = (n : Int) := by omega
    rw [e2] at c
    rw [e]
    exact w1 k c
end TA
end Go.Proofs.Ytcjkfchjcealbaa
namespace Go.Proofs.Ytcjkfchjcealbaa
namespace TA
open SM
/-- One times the sine, and the cosine. -/
def S (n : Int) : Rat := 1073741824 * sinQ n
def C (n : Int) : Rat := 1073741824 * cosQ n
theorem ex_S : (-(1 / 2 ^ 80) ≤ sinQ 0 ∧ sinQ 0 ≤ 1 / 2 ^ 80) ∧ (-(1 / 2 ^ 65) ≤ sinQ 1800000 - 1 / 2 ∧ sinQ 1800000 - 1 / 2 ≤ 1 / 2 ^ 65) := by
  have e0 : (rd 0 : Rat) = 0 := by decide +kernel
  have e1 : (rd 1800000 : Rat) = 1800000 := by decide +kernel
  unfold sinQ
  rw [e0, e1]
  decide +kernel
theorem flo_S (k : Nat) (hk : k ≤ 5400000) : (flo k : Rat) - 1 / 2 ^ 34 ≤ S k ∧ S k ≤ (upf k : Rat) + 1 / 2 ^ 34 := by
  have n := near_T k hk
  have g : G86 = 77371252455336267181195264 := rfl
  unfold S
  cases hx : exa k with
  | false =>
    have e : ((upf k : Int) : Rat) = (flo k : Rat) + 1 := by
      unfold upf
      rw [hx]
      show (((flo k : Int) + 1 : Int) : Rat) = _
      rw [Rat.intCast_add]
      rfl
    have p := gap k hk hx
    rw [g] at p
    rw [e]
    generalize sinQ (k : Int) = s at *
    generalize T k = t at *
    generalize (flo k : Rat) = f at *
    constructor <;> grind
  | true =>
    have e : ((upf k : Int) : Rat) = (flo k : Rat) := by
      unfold upf
      rw [hx]
      rfl
    rw [e]
    have h0 : k = 0 ∨ k = 1800000 ∨ k = 5400000 := by
      unfold exa at hx
      simp only [Bool.or_eq_true, beq_iff_eq] at hx
      omega
    have f0 : ((flo 0 : Nat) : Rat) = 0 := rfl
    have f1 : ((flo 1800000 : Nat) : Rat) = 536870912 := rfl
    have f2 : ((flo 5400000 : Nat) : Rat) = 1073741824 := rfl
    have x := ex_S
    have y := quarterQ.2
    clear n
    rcases h0 with rfl | rfl | rfl
    · rw [f0]
      show _ ≤ 1073741824 * sinQ 0 ∧ 1073741824 * sinQ 0 ≤ _
      generalize sinQ 0 = s at *
      constructor <;> grind
    · rw [f1]
      show _ ≤ 1073741824 * sinQ 1800000 ∧ 1073741824 * sinQ 1800000 ≤ _
      generalize sinQ 1800000 = s at *
      constructor <;> grind
    · rw [f2]
      show _ ≤ 1073741824 * sinQ 5400000 ∧ 1073741824 * sinQ 5400000 ≤ _
      generalize sinQ 5400000 = s at *
      constructor <;> grind
theorem red_S (n : Int) : (south n = false → -(1 / 2 ^ 40) ≤ S n - S (red n) ∧ S n - S (red n) ≤ 1 / 2 ^ 40) ∧ (south n = true → -(1 / 2 ^ 40) ≤ S n + S (red n) ∧ S n + S (red n) ≤ 1 / 2 ^ 40) := by
  have fwd : ∀ {a b : Rat}, (-(1 / 2 ^ 78) ≤ a - b ∧ a - b ≤ 1 / 2 ^ 78) → -(1 / 2 ^ 40) ≤ 1073741824 * a - 1073741824 * b ∧ 1073741824 * a - 1073741824 * b ≤ 1 / 2 ^ 40 := fun h => ⟨by grind, by grind⟩
  have bwd : ∀ {a b : Rat}, (-(1 / 2 ^ 78) ≤ a + b ∧ a + b ≤ 1 / 2 ^ 78) → -(1 / 2 ^ 40) ≤ 1073741824 * a + 1073741824 * b ∧ 1073741824 * a + 1073741824 * b ≤ 1 / 2 ^ 40 := fun h => ⟨by grind, by grind⟩
  have same : ∀ m : Int, n % 21600000 = m % 21600000 → sinQ n = sinQ m := fun m h => (turnQ n m h).2
  have refl' : ∀ m : Int, -(1 / 2 ^ 78) ≤ sinQ (10800000 - m) - sinQ m ∧ sinQ (10800000 - m) - sinQ m ≤ 1 / 2 ^ 78 := fun m => by
    have a := (negQ m).2
    have b := (oppQ (-m)).2
    rw [show -m + 10800000 = 10800000 - m by omega] at b
    generalize sinQ (10800000 - m) = x at *
    generalize sinQ (-m) = y at *
    generalize sinQ m = z at *
    constructor <;> grind
  unfold S south red
  have m0 := Int.emod_nonneg n (show (21600000 : Int) ≠ 0 by omega)
  have m1 := Int.emod_lt_of_pos n (show (0 : Int) < 21600000 by omega)
  have hs : sinQ n = sinQ (n % 21600000) := same _ (by omega)
  rw [hs]
  generalize n % 21600000 = m at *
  clear hs same
  constructor
  · intro h
    have h := of_decide_eq_false h
    dsimp only
    by_cases c : m ≤ 5400000
    · rw [if_pos c, show ((m.toNat : Nat) : Int) = m by omega]
      refine fwd ?_
      generalize sinQ m = x
      constructor <;> grind
    · rw [if_neg c, if_pos (by omega), show (((10800000 - m).toNat : Nat) : Int) = 10800000 - m by omega]
      refine fwd ?_
      have r := refl' m
      generalize sinQ (10800000 - m) = x at *
      generalize sinQ m = y at *
      constructor <;> grind
  · intro h
    have h := of_decide_eq_true h
    dsimp only
    rw [if_neg (by omega), if_neg (by omega)]
    by_cases c : m ≤ 16200000
    · rw [if_pos c, show (((m - 10800000).toNat : Nat) : Int) = m - 10800000 by omega]
      refine bwd ?_
      have r := (oppQ (m - 10800000)).2
      rw [show m - 10800000 + 10800000 = m by omega] at r
      generalize sinQ (m - 10800000) = x at *
      generalize sinQ m = y at *
      constructor <;> grind
    · rw [if_neg c, show (((21600000 - m).toNat : Nat) : Int) = 21600000 - m by omega]
      refine bwd ?_
      have r := (negQ m).2
      rw [(turnQ (-m) (21600000 - m) (by omega)).2] at r
      generalize sinQ (21600000 - m) = x at *
      generalize sinQ m = y at *
      constructor <;> grind
/-- **The bounds hold the sine**, but for a hair. -/
theorem lob_S (n : Int) : (lob n : Rat) - 1 / 2 ^ 32 ≤ S n ∧ S n ≤ (hib n : Rat) + 1 / 2 ^ 32 := by
  have f := flo_S (red n) (red_le n)
  have r := red_S n
  unfold lob hib
  cases hs : south n with
  | false =>
    have r := r.1 hs
    simp only [Bool.false_eq_true, if_false]
    have e : (((flo (red n) : Nat) : Int) : Rat) = (flo (red n) : Rat) := rfl
    rw [e]
    generalize S n = x at *
    generalize S (red n : Int) = y at *
    generalize (flo (red n) : Rat) = p at *
    generalize (upf (red n) : Rat) = q at *
    constructor <;> grind
  | true =>
    have r := r.2 hs
    simp only [if_true]
    have e : (((flo (red n) : Nat) : Int) : Rat) = (flo (red n) : Rat) := rfl
    rw [Rat.intCast_neg, Rat.intCast_neg, e]
    generalize S n = x at *
    generalize S (red n : Int) = y at *
    generalize (flo (red n) : Rat) = p at *
    generalize (upf (red n) : Rat) = q at *
    constructor <;> grind
theorem cos_S (n : Int) : -(1 / 2 ^ 40) ≤ C n - S (n + 5400000) ∧ C n - S (n + 5400000) ≤ 1 / 2 ^ 40 := by
  have a := (coQ (-n)).1
  have b := (negQ n).1
  rw [show 5400000 - -n = n + 5400000 by omega] at a
  unfold C S
  generalize sinQ (n + 5400000) = x at *
  generalize cosQ (-n) = y at *
  generalize cosQ n = z at *
  constructor <;> grind
/-- The sine grows. -/
theorem S_step (n : Int) (h0 : -5400000 ≤ n) (h1 : n < 5400000) : S n + 1 / 2 ^ 17 ≤ S (n + 1) := by
  have key : ∀ k : Nat, k < 5400000 → S k + 1 / 2 ^ 17 + 1 / 2 ^ 30 ≤ S (k + 1 : Int) := fun k hk => by
    have a := near_T k (by omega)
    have b := near_T (k + 1) (by omega)
    have u := up k hk
    have g : G86 = 77371252455336267181195264 := rfl
    have e : ((k + 1 : Nat) : Int) = (k : Int) + 1 := rfl
    rw [e] at b
    rw [g] at u
    unfold S
    generalize sinQ (k : Int) = x at *
    generalize sinQ ((k : Int) + 1) = y at *
    generalize T k = t at *
    generalize T (k + 1) = t' at *
    grind
  by_cases h : 0 ≤ n
  · have k := key n.toNat (by omega)
    rw [show ((n.toNat : Nat) : Int) = n by omega] at k
    generalize S n = x at *
    generalize S (n + 1) = y at *
    grind
  · have k := key (-n - 1).toNat (by omega)
    rw [show (((-n - 1).toNat : Nat) : Int) = -n - 1 by omega, show -n - 1 + 1 = -n by omega] at k
    have a := (negQ n).2
    have b := (negQ (n + 1)).2
    rw [show -(n + 1) = -n - 1 by omega] at b
    unfold S at *
    generalize sinQ n = x at *
    generalize sinQ (n + 1) = y at *
    generalize sinQ (-n) = z at *
    generalize sinQ (-n - 1) = w at *
    grind
theorem S_mono {m n : Int} (h0 : -5400000 ≤ m) (h : m < n) (h1 : n ≤ 5400000) : S m + 1 / 2 ^ 17 ≤ S n := by
  obtain ⟨k, hk⟩ : ∃ k : Nat, n = m + 1 + k := ⟨(n - m - 1).toNat, by omega⟩
  induction k generalizing n with
  | zero => 
    have := S_step m h0 (by omega)
    rw [hk, show m + 1 + ((0 : Nat) : Int) = m + 1 by omega]
    exact this
  | succ k ih =>
    have a := ih (n := m + 1 + k) (by omega) (by omega) rfl
    have b := S_step (m + 1 + k) (by omega) (by omega)
    rw [hk, show m + 1 + ((k + 1 : Nat) : Int) = m + 1 + k + 1 by omega]
    generalize S m = x at *
    generalize S (m + 1 + k) = y at *
    generalize S (m + 1 + k + 1) = z at *
    grind
/-- **The arcsine's ends**, against the sine. -/
theorem asn_S (v : Int) (hv : -1073741824 ≤ v) : S (asn v) ≤ (v : Rat) + 1 / 2 ^ 32 ∧ (asn v < 5400000 → (v : Rat) - 1 / 2 ^ 32 ≤ S (asn v + 1)) := by
  obtain ⟨a0, a1, a2, a3⟩ := asn_is v hv
  have l := (lob_S (asn v)).2
  have r := (lob_S (asn v + 1)).1
  have a2 : (hib (asn v) : Rat) ≤ (v : Rat) := Rat.intCast_le_intCast.2 a2
  refine ⟨?_, fun h => ?_⟩
  · generalize S (asn v) = x at *
    generalize (hib (asn v) : Rat) = y at *
    generalize (v : Rat) = z at *
    grind
  · have : v ≤ lob (asn v + 1) := by
      have := (lob_hib (asn v + 1)).1
      omega
    have : (v : Rat) ≤ (lob (asn v + 1) : Rat) := Rat.intCast_le_intCast.2 this
    generalize S (asn v + 1) = x at *
    generalize (lob (asn v + 1) : Rat) = y at *
    generalize (v : Rat) = z at *
    grind
end TA
end Go.Proofs.Ytcjkfchjcealbaa
namespace Go.Proofs.Ytcjkfchjcealbaa
namespace TA
open SM
/-- A value within an interval, but for a hair. -/
def Has (e : Rat) (lo hi : Int) (X : Rat) : Prop := (lo : Rat) - e ≤ X ∧ X ≤ (hi : Rat) + e
/-- One times the haversine. -/
def H (n : Int) : Rat := (1073741824 - C n) / 2
theorem le_cast {a b : Int} (h : a ≤ b) : (a : Rat) ≤ (b : Rat) := Rat.intCast_le_intCast.2 h
theorem of_cast {a b : Int} {e : Rat} (h : (a : Rat) ≤ (b : Rat) + e) (he : e < 1) : a ≤ b := by
  rcases Int.lt_or_le b a with q | q
  · have : (((b + 1 : Int)) : Rat) ≤ (a : Rat) := le_cast (by omega)
    rw [Rat.intCast_add] at this
    have z : ((1 : Int) : Rat) = 1 := rfl
    rw [z] at this
    grind
  · exact q
theorem Has.wide {e e' : Rat} {lo hi lo' hi' : Int} {X : Rat} (h : Has e lo hi X) (he : e ≤ e') (h1 : lo' ≤ lo) (h2 : hi ≤ hi') : Has e' lo' hi' X := by
  have a := le_cast h1
  have b := le_cast h2
  unfold Has at *
  constructor <;> grind
theorem sin_has {lo hi x : Int} (hv : avalidB lo hi = true) (h1 : lo ≤ x) (h2 : x ≤ hi) : Has (1 / 2 ^ 32) (sinR lo hi).1 (sinR lo hi).2.1 (S x) := by
  have l := lob_S x
  have a := encL_has h1 h2
  have b := encH_has h1 h2
  refine Has.wide l (by decide +kernel) ?_ ?_ <;> simp [sinR, hv, a, b]
theorem cos_has {lo hi x : Int} (hv : avalidB lo hi = true) (h1 : lo ≤ x) (h2 : x ≤ hi) : Has (1 / 2 ^ 31) (cosR lo hi).1 (cosR lo hi).2.1 (C x) := by
  have l := lob_S (x + 5400000)
  have a := encL_has (lo := lo + 5400000) (hi := hi + 5400000) (n := x + 5400000) (by omega) (by omega)
  have b := encH_has (lo := lo + 5400000) (hi := hi + 5400000) (n := x + 5400000) (by omega) (by omega)
  have c := cos_S x
  have : Has (1 / 2 ^ 31) (lob (x + 5400000)) (hib (x + 5400000)) (C x) := by
    unfold Has
    generalize S (x + 5400000) = s at *
    generalize C x = t at *
    constructor <;> grind
  refine Has.wide this (by decide +kernel) ?_ ?_ <;> simp [cosR, hv, a, b]
theorem half_cast (x : Int) : ((x / 2 : Int) : Rat) ≤ (x : Rat) / 2 ∧ (x : Rat) / 2 - 1 / 2 ≤ ((x / 2 : Int) : Rat) := by
  have h1 : ((2 * (x / 2) : Int) : Rat) ≤ (x : Rat) := le_cast (by omega)
  have h2 : (x : Rat) ≤ ((2 * (x / 2) + 1 : Int) : Rat) := le_cast (by omega)
  rw [Rat.intCast_mul] at h1
  rw [Rat.intCast_add, Rat.intCast_mul] at h2
  have z2 : ((2 : Int) : Rat) = 2 := rfl
  have z1 : ((1 : Int) : Rat) = 1 := rfl
  rw [z2] at h1 h2
  rw [z1] at h2
  constructor <;> grind
theorem hav_has {lo hi x : Int} (hv : avalidB lo hi = true) (h1 : lo ≤ x) (h2 : x ≤ hi) : Has (1 / 2 ^ 31) (havR lo hi).1 (havR lo hi).2.1 (H x) := by
  have c := cos_has hv h1 h2
  have e1 : (cosR lo hi).1 = encL (lo + 5400000) (hi + 5400000) := by simp [cosR, hv]
  have e2 : (cosR lo hi).2.1 = encH (lo + 5400000) (hi + 5400000) := by simp [cosR, hv]
  have e3 : (havR lo hi).1 = (1073741824 - encH (lo + 5400000) (hi + 5400000)) / 2 := by simp [havR, hv]
  have e4 : (havR lo hi).2.1 = (1073741824 - encL (lo + 5400000) (hi + 5400000) + 1) / 2 := by simp [havR, hv]
  rw [e1, e2] at c
  rw [e3, e4]
  unfold Has H at *
  have p := half_cast (1073741824 - encH (lo + 5400000) (hi + 5400000))
  have q := half_cast (1073741824 - encL (lo + 5400000) (hi + 5400000) + 1)
  rw [Rat.intCast_sub] at p
  rw [Rat.intCast_add, Rat.intCast_sub] at q
  have z : ((1073741824 : Int) : Rat) = 1073741824 := rfl
  have z1 : ((1 : Int) : Rat) = 1 := rfl
  rw [z] at p q
  rw [z1] at q
  generalize (encH (lo + 5400000) (hi + 5400000) : Rat) = u at *
  generalize (encL (lo + 5400000) (hi + 5400000) : Rat) = v at *
  generalize C x = w at *
  constructor <;> grind
theorem add_has {a b c d : Int} {e e' X Y : Rat} (h1 : Has e a b X) (h2 : Has e' c d Y) : Has (e + e') (a + c) (b + d) (X + Y) := by
  unfold Has at *
  rw [Rat.intCast_add, Rat.intCast_add]
  constructor <;> grind
theorem sub_has {a b c d : Int} {e e' X Y : Rat} (h1 : Has e a b X) (h2 : Has e' c d Y) : Has (e + e') (a - d) (b - c) (X - Y) := by
  unfold Has at *
  rw [Rat.intCast_sub, Rat.intCast_sub]
  constructor <;> grind
/-- A near value within the interval itself. -/
theorem clamp {e : Rat} {a b : Int} {X : Rat} (he : 0 ≤ e) (h : Has e a b X) (hab : a ≤ b) : ∃ X' : Rat, (a : Rat) ≤ X' ∧ X' ≤ (b : Rat) ∧ -e ≤ X - X' ∧ X - X' ≤ e := by
  have q := le_cast hab
  unfold Has at h
  by_cases c1 : X ≤ (a : Rat)
  · exact ⟨a, by grind, by grind, by grind, by grind⟩
  · by_cases c2 : (b : Rat) ≤ X
    · exact ⟨b, by grind, by grind, by grind, by grind⟩
    · exact ⟨X, by grind, by grind, by grind, by grind⟩
theorem lin_r {a x b : Rat} (y : Rat) (h1 : a ≤ x) (h2 : x ≤ b) : (a * y ≤ x * y ∧ x * y ≤ b * y) ∨ (b * y ≤ x * y ∧ x * y ≤ a * y) := by
  by_cases hy : 0 ≤ y
  · have p := Rat.mul_nonneg (show 0 ≤ x - a by grind) hy
    have q := Rat.mul_nonneg (show 0 ≤ b - x by grind) hy
    left; constructor <;> grind
  · have p := Rat.mul_nonneg (show 0 ≤ x - a by grind) (show 0 ≤ -y by grind)
    have q := Rat.mul_nonneg (show 0 ≤ b - x by grind) (show 0 ≤ -y by grind)
    right; constructor <;> grind
theorem mul_real {a b c d : Int} {X Y : Rat} (h1 : (a : Rat) ≤ X) (h2 : X ≤ (b : Rat)) (h3 : (c : Rat) ≤ Y) (h4 : Y ≤ (d : Rat)) : ((mulL a b c d : Int) : Rat) ≤ X * Y ∧ X * Y ≤ ((mulH a b c d : Int) : Rat) := by
  have l := mn4 (a * c) (a * d) (b * c) (b * d)
  have u := mx4 (a * c) (a * d) (b * c) (b * d)
  have l1 := le_cast l.1.1
  have l2 := le_cast l.1.2.1
  have l3 := le_cast l.1.2.2.1
  have l4 := le_cast l.1.2.2.2
  have u1 := le_cast u.1.1
  have u2 := le_cast u.1.2.1
  have u3 := le_cast u.1.2.2.1
  have u4 := le_cast u.1.2.2.2
  rw [Rat.intCast_mul] at l1 l2 l3 l4 u1 u2 u3 u4
  have p := lin_r Y h1 h2
  have q := lin_r (a : Rat) h3 h4
  have r := lin_r (b : Rat) h3 h4
  rw [Rat.mul_comm (c : Rat), Rat.mul_comm Y, Rat.mul_comm (d : Rat)] at q r
  unfold mulL mulH
  generalize (mn (mn (mn (a * c) (a * d)) (b * c)) (b * d) : Rat) = m at *
  generalize (mx (mx (mx (a * c) (a * d)) (b * c)) (b * d) : Rat) = n at *
  generalize X * Y = xy at *
  generalize (a : Rat) * Y = ay at *
  generalize (b : Rat) * Y = yb at *
  generalize (a : Rat) * (c : Rat) = ac at *
  generalize (a : Rat) * (d : Rat) = ad at *
  generalize (b : Rat) * (c : Rat) = bc at *
  generalize (b : Rat) * (d : Rat) = bd at *
  constructor <;> grind
theorem floor_cast (x : Int) : ((x / 1073741824 : Int) : Rat) * 1073741824 ≤ (x : Rat) := by
  have h : ((x / 1073741824 * 1073741824 : Int) : Rat) ≤ (x : Rat) := le_cast (by omega)
  rw [Rat.intCast_mul] at h
  exact h
theorem mul_has {a b c d : Int} {e X Y : Rat} (he : 0 ≤ e) (he1 : e ≤ 1 / 4) (h1 : Has e a b X) (h2 : Has e c d Y) (ab : a ≤ b) (cd : c ≤ d)
    (ha : -1073741824 ≤ a) (hb : b ≤ 1073741824) (hc : -1073741824 ≤ c) (hd : d ≤ 1073741824) :
    Has (3 * e) (mulR a b c d).1 (mulR a b c d).2.1 (X * Y / 1073741824) := by
  obtain ⟨x, x1, x2, x3, x4⟩ := clamp he h1 ab
  obtain ⟨y, y1, y2, y3, y4⟩ := clamp he h2 cd
  have m := mul_one ha ab hb hc cd hd
  have ev : mulR a b c d = (mulL a b c d / 1073741824, -(-mulH a b c d / 1073741824), 0) := by
    have := m.1
    unfold mulR at this ⊢
    obtain ⟨hb, hf⟩ := both_ok this
    rw [if_pos hb]
    exact (fit_ok hf).2
  rw [ev]
  have z : ((1073741824 : Int) : Rat) = 1073741824 := rfl
  have za : -1073741824 ≤ (a : Rat) := le_cast (a := -1073741824) ha
  have zb : (b : Rat) ≤ 1073741824 := le_cast (b := 1073741824) hb
  have zc : -1073741824 ≤ (c : Rat) := le_cast (a := -1073741824) hc
  have zd : (d : Rat) ≤ 1073741824 := le_cast (b := 1073741824) hd
  have r := mul_real x1 x2 y1 y2
  have f := floor_cast (mulL a b c d)
  have g := floor_cast (-mulH a b c d)
  rw [Rat.intCast_neg] at g
  have k1 := mul_abs (a := X - x) (b := y) (A := e) (B := 1073741824) x3 x4 (by grind) (by grind)
  have k2 := mul_abs (a := x) (b := Y - y) (A := 1073741824) (B := e) (by grind) (by grind) y3 y4
  have k3 := mul_abs (a := X - x) (b := Y - y) (A := e) (B := e) x3 x4 y3 y4
  have k4 : e * e ≤ e := by have := Rat.mul_nonneg he (show 0 ≤ 1 - e by grind); grind
  have ex : X * Y = x * y + (X - x) * y + x * (Y - y) + (X - x) * (Y - y) := by grind
  unfold Has
  dsimp only
  rw [ex, Rat.intCast_neg]
  generalize (mulL a b c d : Rat) = L at *
  generalize (mulH a b c d : Rat) = U at *
  generalize ((mulL a b c d / 1073741824 : Int) : Rat) = L' at *
  generalize ((-mulH a b c d / 1073741824 : Int) : Rat) = U' at *
  generalize x * y = p0 at *
  generalize (X - x) * y = p1 at *
  generalize x * (Y - y) = p2 at *
  generalize (X - x) * (Y - y) = p3 at *
  clear ex
  constructor <;> grind
end TA
end Go.Proofs.Ytcjkfchjcealbaa
namespace Go.Proofs.Ytcjkfchjcealbaa
namespace TA
open SM
theorem C_bd (n : Int) : -1073741824 - 1 / 2 ^ 30 ≤ C n ∧ C n ≤ 1073741824 + 1 / 2 ^ 30 := by
  have l := lob_S (n + 5400000)
  have b := lob_hib (n + 5400000)
  have c := cos_S n
  have b1 := le_cast b.2.1
  have b2 := le_cast b.2.2
  have z1 : ((1073741824 : Int) : Rat) = 1073741824 := rfl
  have z2 : ((-1073741824 : Int) : Rat) = -1073741824 := rfl
  rw [z2] at b1
  rw [z1] at b2
  generalize S (n + 5400000) = s at *
  generalize C n = t at *
  generalize (lob (n + 5400000) : Rat) = u at *
  generalize (hib (n + 5400000) : Rat) = v at *
  constructor <;> grind
theorem H_bd (n : Int) : -(1 / 2 ^ 30) ≤ H n ∧ H n ≤ 1073741824 + 1 / 2 ^ 30 := by
  have c := C_bd n
  unfold H
  generalize C n = t at *
  constructor <;> grind
theorem lob_pos {n : Int} (h0 : 0 ≤ n) (h1 : n ≤ 10800000) : 0 ≤ lob n := by
  have : south n = false := decide_eq_false (by omega)
  unfold lob
  rw [this]
  simp
theorem C_pos {n : Int} (h0 : -5400000 ≤ n) (h1 : n ≤ 5400000) : -(1 / 2 ^ 30) ≤ C n := by
  have l := lob_S (n + 5400000)
  have b1 := le_cast (lob_pos (n := n + 5400000) (by omega) (by omega))
  have c := cos_S n
  have z2 : ((0 : Int) : Rat) = 0 := rfl
  rw [z2] at b1
  generalize S (n + 5400000) = s at *
  generalize C n = t at *
  generalize (lob (n + 5400000) : Rat) = u at *
  grind
theorem H_sin (n : Int) : -(1 / 2 ^ 40) ≤ H n - (1073741824 - S (5400000 - n)) / 2 ∧ H n - (1073741824 - S (5400000 - n)) / 2 ≤ 1 / 2 ^ 40 := by
  have a := (coQ n).1
  unfold H C S
  generalize sinQ (5400000 - n) = x at *
  generalize cosQ n = y at *
  constructor <;> grind
theorem H_mono {m n : Int} (h0 : 0 ≤ m) (h : m < n) (h1 : n ≤ 10800000) : H m + 1 / 2 ^ 19 ≤ H n := by
  have s := S_mono (m := 5400000 - n) (n := 5400000 - m) (by omega) (by omega) (by omega)
  have a := H_sin m
  have b := H_sin n
  generalize S (5400000 - m) = x at *
  generalize S (5400000 - n) = y at *
  generalize H m = u at *
  generalize H n = v at *
  grind
theorem H_le {m n : Int} (h0 : 0 ≤ m) (h : m ≤ n) (h1 : n ≤ 10800000) : H m ≤ H n := by
  rcases Int.lt_or_eq_of_le h with q | q
  · have := H_mono h0 q h1
    grind
  · rw [q]; grind
theorem H_inv {m n : Int} {e : Rat} (h0 : 0 ≤ n) (h1 : m ≤ 10800000) (he : e < 1 / 2 ^ 19) (h : H m ≤ H n + e) : m ≤ n := by
  rcases Int.lt_or_le n m with q | q
  · have := H_mono h0 q h1
    grind
  · exact q
theorem H_neg (n : Int) : -(1 / 2 ^ 40) ≤ H (-n) - H n ∧ H (-n) - H n ≤ 1 / 2 ^ 40 := by
  have a := (negQ n).1
  unfold H C
  generalize cosQ (-n) = x at *
  generalize cosQ n = y at *
  constructor <;> grind
theorem H_turn (n : Int) : -(1 / 2 ^ 40) ≤ H (21600000 - n) - H n ∧ H (21600000 - n) - H n ≤ 1 / 2 ^ 40 := by
  have a := H_neg n
  have b : H (21600000 - n) = H (-n) := by
    unfold H C
    rw [(turnQ (21600000 - n) (-n) (by omega)).1]
  rw [b]
  exact a
theorem H_zero : H 0 ≤ 1 / 2 ^ 40 := by
  have e : cosQ 0 = 1 := by
    have e0 : (rd 0 : Rat) = 0 := by decide +kernel
    unfold cosQ
    rw [e0]
    decide +kernel
  unfold H C
  rw [e]
  grind
theorem H_half : 1073741824 - 1 / 2 ^ 40 ≤ H 10800000 := by
  have q := halfQ.1
  unfold H C
  generalize cosQ 10800000 = x at *
  grind
/-- The haversines of a sum, and of a difference. -/
theorem H_sum (a x : Int) : -(1 / 2 ^ 40) ≤ H (10800000 - a - x) - H (a - x) - C a * C x / 1073741824 ∧ H (10800000 - a - x) - H (a - x) - C a * C x / 1073741824 ≤ 1 / 2 ^ 40 := by
  have p := (addQ a x).1
  have q := (addQ a (-x)).1
  have r := negQ x
  have o := (oppQ (-(a + x))).1
  have n := (negQ (a + x)).1
  have b := bound2 a
  rw [show a + -x = a - x by omega] at q
  rw [show -(a + x) + 10800000 = 10800000 - a - x by omega] at o
  have m1 := near_mul b.1 r.1
  have m2 := near_mul b.2 r.2
  unfold H C
  unfold eta at p q
  generalize cosQ (10800000 - a - x) = v1 at *
  generalize cosQ (-(a + x)) = v2 at *
  generalize cosQ (a + x) = v3 at *
  generalize cosQ (a - x) = v4 at *
  generalize cosQ (-x) = v5 at *
  generalize sinQ (-x) = v6 at *
  generalize cosQ a = v7 at *
  generalize sinQ a = v8 at *
  generalize cosQ x = v9 at *
  generalize sinQ x = v10 at *
  constructor <;> grind
/-- One times the haversine of the zenith distance. -/
def Wz (a c t : Int) : Rat := H (a - c) + C a * C c / 1073741824 * H t / 1073741824
theorem W_bd {a c : Int} (t : Int) (ha : -5400000 ≤ a ∧ a ≤ 5400000) (hc : -5400000 ≤ c ∧ c ≤ 5400000) : H (a - c) - 1 / 2 ^ 26 ≤ Wz a c t ∧ Wz a c t ≤ H (10800000 - a - c) + 1 / 2 ^ 26 := by
  have s := H_sum a c
  have p := C_pos ha.1 ha.2
  have q := C_pos hc.1 hc.2
  have p' := C_bd a
  have q' := C_bd c
  have h := H_bd t
  have m0 := Rat.mul_nonneg (show 0 ≤ C a + 1 / 2 ^ 30 by grind) (show 0 ≤ C c + 1 / 2 ^ 30 by grind)
  have x0 : -(1 / 2 ^ 28) ≤ C a * C c / 1073741824 := by
    generalize C a = u at *
    generalize C c = v at *
    grind
  have m1 := Rat.mul_nonneg (show 0 ≤ 1073741824 + 1 / 2 ^ 30 - C a by grind) (show 0 ≤ C c + 1 / 2 ^ 30 by grind)
  have x1 : C a * C c / 1073741824 ≤ 1073741824 + 1 / 2 ^ 26 := by
    generalize C a = u at *
    generalize C c = v at *
    grind
  unfold Wz
  generalize C a * C c / 1073741824 = X at *
  generalize H t = Y at *
  have k1 := Rat.mul_nonneg (show 0 ≤ X + 1 / 2 ^ 28 by grind) (show 0 ≤ Y + 1 / 2 ^ 30 by grind)
  have k2 := Rat.mul_nonneg (show 0 ≤ X + 1 / 2 ^ 28 by grind) (show 0 ≤ 1073741824 + 1 / 2 ^ 30 - Y by grind)
  generalize H (10800000 - a - c) = U at *
  generalize H (a - c) = V at *
  constructor <;> grind
theorem W_one {a c : Int} (t : Int) (ha : -5400000 ≤ a ∧ a ≤ 5400000) (hc : -5400000 ≤ c ∧ c ≤ 5400000) : -(1 / 2 ^ 25) ≤ Wz a c t ∧ Wz a c t ≤ 1073741824 + 1 / 2 ^ 25 := by
  have w := W_bd t ha hc
  have h1 := H_bd (a - c)
  have h2 := H_bd (10800000 - a - c)
  constructor <;> grind
/-- **Whole angles around the zenith distance**: one where the opposite side is not too short, one where it is not too long. -/
theorem side_a {a c zl zh : Int} {W : Rat} (ha : -5400000 ≤ a ∧ a ≤ 5400000) (hc : -5400000 ≤ c ∧ c ≤ 5400000) (h1 : H (a - c) - 1 / 2 ^ 26 ≤ W) (h2 : W ≤ H (10800000 - a - c) + 1 / 2 ^ 26)
    (z0 : 0 ≤ zl) (zz : zl ≤ zh) (z1 : zh ≤ 10800000) (hl : H zl ≤ W + 1 / 2 ^ 24) (hh : W - 1 / 2 ^ 24 ≤ H zh) : ∃ z, zl ≤ z ∧ z ≤ zh ∧ H (a - (5400000 - z)) ≤ H (5400000 - c) + 1 / 2 ^ 24 := by
  have hd := H_bd (5400000 - c)
  by_cases c1 : 5400000 - a < zl
  · have : zl ≤ 10800000 - a - c := by
      by_cases k : 10800000 - a - c ≤ 10800000
      · exact H_inv (e := 1 / 2 ^ 22) (by omega) (by omega) (by decide +kernel) (by grind)
      · omega
    have m := H_le (m := a - (5400000 - zl)) (n := 5400000 - c) (by omega) (by omega) (by omega)
    exact ⟨zl, by omega, by omega, by grind⟩
  · by_cases c2 : zh < 5400000 - a
    · have : c - a ≤ zh := by
        by_cases k : 0 ≤ c - a
        · have q := H_neg (a - c)
          rw [show -(a - c) = c - a by omega] at q
          exact H_inv (e := 1 / 2 ^ 22) (by omega) (by omega) (by decide +kernel) (by grind)
        · omega
      have m := H_le (m := 5400000 - zh - a) (n := 5400000 - c) (by omega) (by omega) (by omega)
      have q := H_neg (5400000 - zh - a)
      rw [show -(5400000 - zh - a) = a - (5400000 - zh) by omega] at q
      exact ⟨zh, by omega, by omega, by grind⟩
    · refine ⟨5400000 - a, by omega, by omega, ?_⟩
      rw [show a - (5400000 - (5400000 - a)) = 0 by omega]
      have := H_zero
      grind
theorem side_b {a c zl zh : Int} {W : Rat} (ha : -5400000 ≤ a ∧ a ≤ 5400000) (hc : -5400000 ≤ c ∧ c ≤ 5400000) (h1 : H (a - c) - 1 / 2 ^ 26 ≤ W) (h2 : W ≤ H (10800000 - a - c) + 1 / 2 ^ 26)
    (z0 : 0 ≤ zl) (zz : zl ≤ zh) (z1 : zh ≤ 10800000) (hl : H zl ≤ W + 1 / 2 ^ 24) (hh : W - 1 / 2 ^ 24 ≤ H zh) : ∃ z, zl ≤ z ∧ z ≤ zh ∧ H (5400000 - c) ≤ H (10800000 - a - (5400000 - z)) + 1 / 2 ^ 24 := by
  have hd := H_bd (5400000 - c)
  by_cases c1 : 5400000 + zh - a ≤ 10800000
  · have : a - c ≤ zh := by
      by_cases k : 0 ≤ a - c
      · exact H_inv (e := 1 / 2 ^ 22) (by omega) (by omega) (by decide +kernel) (by grind)
      · omega
    have m := H_le (m := 5400000 - c) (n := 5400000 + zh - a) (by omega) (by omega) (by omega)
    rw [show 5400000 + zh - a = 10800000 - a - (5400000 - zh) by omega] at m
    exact ⟨zh, by omega, by omega, by grind⟩
  · by_cases c2 : 10800000 ≤ 5400000 + zl - a
    · have : zl ≤ 10800000 + a + c := by
        by_cases k : 10800000 - a - c ≤ 10800000
        · omega
        · have q := H_turn (10800000 - a - c)
          rw [show 21600000 - (10800000 - a - c) = 10800000 + a + c by omega] at q
          exact H_inv (e := 1 / 2 ^ 22) (by omega) (by omega) (by decide +kernel) (by grind)
      have m := H_le (m := 5400000 - c) (n := 16200000 - zl + a) (by omega) (by omega) (by omega)
      have q := H_turn (16200000 - zl + a)
      rw [show 21600000 - (16200000 - zl + a) = 10800000 - a - (5400000 - zl) by omega] at q
      exact ⟨zl, by omega, by omega, by grind⟩
    · refine ⟨5400000 + a, by omega, by omega, ?_⟩
      rw [show 10800000 - a - (5400000 - (5400000 + a)) = 10800000 by omega]
      have := H_half
      grind
end TA
end Go.Proofs.Ytcjkfchjcealbaa
namespace Go.Proofs.Ytcjkfchjcealbaa
namespace TA
open SM Ev
def zprod (a b c d e f : Int) : Int × Int × Int := mulR (cosV a b c d).1 (cosV a b c d).2 (havR e f).1 (havR e f).2.1
def zsum (a b c d e f : Int) : Int × Int × Int := addR (betV a b c d).1 (betV a b c d).2 (zprod a b c d e f).1 (zprod a b c d e f).2.1
theorem zsum_ok {a b c d e f : Int} (h : triB a b c d e f = true) : (zprod a b c d e f).2.2 = 0 ∧ zsum a b c d e f = ((betV a b c d).1 + (zprod a b c d e f).1, (betV a b c d).2 + (zprod a b c d e f).2.1, 0) ∧
    validB (zsum a b c d e f).1 (zsum a b c d e f).2.1 = true := by
  obtain ⟨h1, h2, h3⟩ := tri_bd h
  have l1 := lat_bd h1
  have l2 := lat_bd h2
  have k := bet_ok (a := a) (b := b) (c := c) (d := d) (by omega) (by omega) (by omega) (by omega) (by omega) (by omega)
  have q := cosV_ok l1.1 l2.1
  have o := (one_bd h3).2.2
  have m := mul_one q.2.2.1 q.2.2.2.1 q.2.2.2.2 (by omega) o.2.1 o.2.2.1
  have em : (mulR (cosV a b c d).1 (cosV a b c d).2 (havR e f).1 (havR e f).2.1) = zprod a b c d e f := rfl
  rw [em] at m
  have ev : zsum a b c d e f = ((betV a b c d).1 + (zprod a b c d e f).1, (betV a b c d).2 + (zprod a b c d e f).2.1, 0) := by
    unfold zsum addR
    rw [if_pos (both_mk (val_mk (by omega) k.2.2.2.1 (by omega)) (val_mk (by omega) m.2.2.1 (by omega)))]
    exact fit_mk (val_mk (by omega) (by omega) (by omega))
  refine ⟨m.1, ev, ?_⟩
  rw [ev]
  exact val_mk (by dsimp only; omega) (by dsimp only; omega) (by dsimp only; omega)
theorem zsum_has {a b c d e f x y t : Int} (h : triB a b c d e f = true) (hx : a ≤ x ∧ x ≤ b) (hy : c ≤ y ∧ y ≤ d) (ht : e ≤ t ∧ t ≤ f) : Has (1 / 2 ^ 27) (zsum a b c d e f).1 (zsum a b c d e f).2.1 (Wz x y t) := by
  obtain ⟨h1, h2, h3⟩ := tri_bd h
  have l1 := lat_bd h1
  have l2 := lat_bd h2
  have k := bet_ok (a := a) (b := b) (c := c) (d := d) (by omega) (by omega) (by omega) (by omega) (by omega) (by omega)
  have q := cosV_ok l1.1 l2.1
  have o := (one_bd h3).2.2
  have o1 := (one_bd l1.1).2.1
  have o2 := (one_bd l2.1).2.1
  have p1 := hav_has (lo := a - d) (hi := b - c) (x := x - y) (avalid_mk (by omega) (by omega) (by omega)) (by omega) (by omega)
  have p2 := mul_has (by decide +kernel) (by decide +kernel) (cos_has l1.1 hx.1 hx.2) (cos_has l2.1 hy.1 hy.2) o1.2.1 o2.2.1 o1.1 o1.2.2.1 o2.1 o2.2.2.1
  have e2 : (mulR (cosR a b).1 (cosR a b).2.1 (cosR c d).1 (cosR c d).2.1).1 = (cosV a b c d).1 ∧ (mulR (cosR a b).1 (cosR a b).2.1 (cosR c d).1 (cosR c d).2.1).2.1 = (cosV a b c d).2 := by rw [q.1]; exact ⟨rfl, rfl⟩
  rw [e2.1, e2.2] at p2
  have p3 := Has.wide (hav_has h3 ht.1 ht.2) (e' := 3 * (1 / 2 ^ 31)) (by decide +kernel) (Int.le_refl _) (Int.le_refl _)
  have p4 := mul_has (by decide +kernel) (by decide +kernel) p2 p3 q.2.2.2.1 o.2.1 q.2.2.1 q.2.2.2.2 (by omega) o.2.2.1
  have e1 : (havR (a - d) (b - c)).1 = (betV a b c d).1 ∧ (havR (a - d) (b - c)).2.1 = (betV a b c d).2 := by rw [k.1]; exact ⟨rfl, rfl⟩
  rw [e1.1, e1.2] at p1
  have s := add_has p1 p4
  rw [(zsum_ok h).2.1]
  exact Has.wide s (by decide +kernel) (Int.le_refl _) (Int.le_refl _)
theorem zsum_one {a b c d e f : Int} (h : triB a b c d e f = true) : (zsum a b c d e f).1 ≤ 1073741824 ∧ 0 ≤ (zsum a b c d e f).2.1 := by
  obtain ⟨h1, h2, h3⟩ := tri_bd h
  have l1 := lat_bd h1
  have l2 := lat_bd h2
  have l3 := aval_bd h3
  have q := zsum_has (x := a) (y := c) (t := e) h (by omega) (by omega) (by omega)
  have w := W_one e (a := a) (c := c) (by omega) (by omega)
  unfold Has at q
  have z : ((1073741824 : Int) : Rat) = 1073741824 := rfl
  have z0 : ((0 : Int) : Rat) = 0 := rfl
  constructor
  · refine of_cast (e := 1 / 2 ^ 20) ?_ (by decide +kernel)
    rw [z]
    grind
  · refine of_cast (e := 1 / 2 ^ 20) ?_ (by decide +kernel)
    rw [z0]
    grind
theorem zen_ah {a b c d e f : Int} (h : triB a b c d e f = true) : ahavR (zsum a b c d e f).1 (zsum a b c d e f).2.1 = (5400000 + asn (2 * max (zsum a b c d e f).1 0 - 1073741824), 5400000 - asn (1073741824 - 2 * min (zsum a b c d e f).2.1 1073741824), 0) := by
  have o := zsum_one h
  have z := zsum_ok h
  have v := val_bd z.2.2
  unfold ahavR
  rw [z.2.2]
  simp only [Bool.true_eq_false, if_false]
  rw [if_pos (by omega), acosR_in _ _ (by omega) (by omega) (by omega)]
  rw [show -(1073741824 - 2 * max (zsum a b c d e f).1 0) = 2 * max (zsum a b c d e f).1 0 - 1073741824 by omega]
/-- **No error comes.** -/
theorem zen_ok {a b c d e f : Int} (h : triB a b c d e f = true) : zenM a b c d e f = (5400000 + asn (2 * max (zsum a b c d e f).1 0 - 1073741824), 5400000 - asn (1073741824 - 2 * min (zsum a b c d e f).2.1 1073741824), 0) := by
  have z := zsum_ok h
  obtain ⟨h1, h2, h3⟩ := tri_bd h
  have l1 := lat_bd h1
  have l2 := lat_bd h2
  have k := bet_ok (a := a) (b := b) (c := c) (d := d) (by omega) (by omega) (by omega) (by omega) (by omega) (by omega)
  have q := cosV_ok l1.1 l2.1
  have hh := (one_bd h3).2.2
  have ah := zen_ah h
  unfold zenM
  rw [h]
  simp only [lt, numV, numC, arcW, arcC, Bool.not_true, cond_false]
  rw [q.2.1, hh.2.2.2, keep0]
  have e1 : (mulR (cosV a b c d).1 (cosV a b c d).2 (havR e f).1 (havR e f).2.1) = zprod a b c d e f := rfl
  rw [e1, z.1, keep0, k.2.1]
  have e2 : (addR (betV a b c d).1 (betV a b c d).2 (zprod a b c d e f).1 (zprod a b c d e f).2.1) = zsum a b c d e f := rfl
  have e3 : (zsum a b c d e f).2.2 = 0 := by rw [z.2.1]
  rw [e2, e3, keep0, ah]
  rfl
theorem S_neg (n : Int) : -(1 / 2 ^ 40) ≤ S (-n) + S n ∧ S (-n) + S n ≤ 1 / 2 ^ 40 := by
  have a := (negQ n).2
  unfold S
  generalize sinQ (-n) = x at *
  generalize sinQ n = y at *
  constructor <;> grind
/-- **The true zenith distance is between the ends.** -/
theorem zen_ends {a b c d e f x y t : Int} (h : triB a b c d e f = true) (hx : a ≤ x ∧ x ≤ b) (hy : c ≤ y ∧ y ≤ d) (ht : e ≤ t ∧ t ≤ f) :
    0 ≤ (zenM a b c d e f).1 ∧ (zenM a b c d e f).1 ≤ (zenM a b c d e f).2.1 ∧ (zenM a b c d e f).2.1 ≤ 10800000 ∧ H (zenM a b c d e f).1 ≤ Wz x y t + 1 / 2 ^ 24 ∧ Wz x y t - 1 / 2 ^ 24 ≤ H (zenM a b c d e f).2.1 := by
  obtain ⟨h1, h2, h3⟩ := tri_bd h
  have l1 := lat_bd h1
  have l2 := lat_bd h2
  have o := zsum_one h
  have v := val_bd (zsum_ok h).2.2
  have w := W_one t (a := x) (c := y) (by omega) (by omega)
  have q := zsum_has h hx hy ht
  rw [zen_ok h]
  dsimp only
  generalize (zsum a b c d e f).1 = s at *
  generalize (zsum a b c d e f).2.1 = r at *
  have a1 := asn_is (2 * max s 0 - 1073741824) (by omega)
  have a2 := asn_is (1073741824 - 2 * min r 1073741824) (by omega)
  have s1 := (asn_S (2 * max s 0 - 1073741824) (by omega)).1
  have s2 := (asn_S (1073741824 - 2 * min r 1073741824) (by omega)).1
  have od := asn_order (u := 2 * max s 0 - 1073741824) (v := 2 * min r 1073741824 - 1073741824) (by omega) (by omega) (by omega)
  rw [show -(2 * min r 1073741824 - 1073741824) = 1073741824 - 2 * min r 1073741824 by omega] at od
  have z : ((1073741824 : Int) : Rat) = 1073741824 := rfl
  have z2 : ((2 : Int) : Rat) = 2 := rfl
  have z0 : ((0 : Int) : Rat) = 0 := rfl
  rw [Rat.intCast_sub, Rat.intCast_mul, z, z2] at s1 s2
  have m1 : ((max s 0 : Int) : Rat) ≤ Wz x y t + 1 / 2 ^ 25 := by
    unfold Has at q
    rcases Int.le_total s 0 with c | c
    · rw [Int.max_eq_right c, z0]; grind
    · rw [Int.max_eq_left c]; grind
  have m2 : Wz x y t - 1 / 2 ^ 25 ≤ ((min r 1073741824 : Int) : Rat) := by
    unfold Has at q
    rcases Int.le_total r 1073741824 with c | c
    · rw [Int.min_eq_left c]; grind
    · rw [Int.min_eq_right c, z]; grind
  generalize asn (2 * max s 0 - 1073741824) = p at *
  generalize asn (1073741824 - 2 * min r 1073741824) = u at *
  have g1 := H_sin (5400000 + p)
  have g2 := H_sin (5400000 - u)
  rw [show 5400000 - (5400000 + p) = -p by omega] at g1
  rw [show 5400000 - (5400000 - u) = u by omega] at g2
  have g3 := S_neg p
  refine ⟨by have := a1.1; omega, by omega, by have := a2.1; omega, ?_, ?_⟩
  · generalize H (5400000 + p) = k1 at *
    generalize S (-p) = k2 at *
    generalize S p = k3 at *
    grind
  · generalize H (5400000 - u) = k1 at *
    generalize S u = k2 at *
    grind
theorem cosL_pos {a b : Int} (h : latB a b = true) : 0 ≤ (cosR a b).1 := by
  have l := lat_bd h
  obtain ⟨n, n1, n2, e⟩ := encL_at (lo := a + 5400000) (hi := b + 5400000) (by omega)
  have p := lob_pos (n := n) (by omega) (by omega)
  have : (cosR a b).1 = encL (a + 5400000) (b + 5400000) := by simp [cosR, l.1]
  omega
theorem cosV_pos {a b c d : Int} (h1 : latB a b = true) (h2 : latB c d = true) : 0 ≤ (cosV a b c d).1 := by
  have p := cosL_pos h1
  have q := cosL_pos h2
  have l1 := (lat_bd h1).1
  have l2 := (lat_bd h2).1
  have o1 := (one_bd l1).2.1
  have o2 := (one_bd l2).2.1
  have m := mul_one o1.1 o1.2.1 o1.2.2.1 o2.1 o2.2.1 o2.2.2.1
  rw [(cosV_ok l1 l2).1]
  dsimp only
  obtain ⟨x, y, hx, hy, e⟩ := mulL_at (cosR a b).1 (cosR a b).2.1 (cosR c d).1 (cosR c d).2.1
  have nn : 0 ≤ x * y := Int.mul_nonneg (by omega) (by omega)
  have m1 := m.1
  unfold mulR at m1 ⊢
  obtain ⟨hb, hf⟩ := both_ok m1
  rw [if_pos hb, (fit_ok hf).2]
  dsimp only
  omega
/-- **The angle at the zenith has no error but that of the pole.** -/
theorem top_ok {a b c d e f : Int} (h : triB a b c d e f = true) : (topM a b c d e f (zenM a b c d e f).1 (zenM a b c d e f).2.1).2.2 = 0 ∨ (topM a b c d e f (zenM a b c d e f).1 (zenM a b c d e f).2.1).2.2 = 21 := by
  obtain ⟨h1, h2, h3⟩ := tri_bd h
  have l1 := lat_bd h1
  have l2 := lat_bd h2
  have l3 := aval_bd h3
  obtain ⟨z0, zz, z1, hl, hh⟩ := zen_ends (x := a) (y := c) (t := e) h (by omega) (by omega) (by omega)
  have w := W_bd e (a := a) (c := c) (by omega) (by omega)
  obtain ⟨i, i1, i2, i3⟩ := side_a (a := a) (c := c) (by omega) (by omega) w.1 w.2 z0 zz z1 hl hh
  obtain ⟨j, j1, j2, j3⟩ := side_b (a := a) (c := c) (by omega) (by omega) w.1 w.2 z0 zz z1 hl hh
  clear hl hh w
  generalize (zenM a b c d e f).1 = u at *
  generalize (zenM a b c d e f).2.1 = v at *
  have hz : latB (5400000 - v) (5400000 - u) = true := by
    unfold latB
    rw [avalid_mk (by omega) (by omega) (by omega)]
    simp
    omega
  have hva := (lat_bd hz).1
  have hd : avalidB (5400000 - d) (5400000 - c) = true := avalid_mk (by omega) (by omega) (by omega)
  have hw : avalidB (a - (5400000 - u)) (b - (5400000 - v)) = true := avalid_mk (by omega) (by omega) (by omega)
  rw [top_eq h1 h2 z0 zz z1]
  have n0 := num_ok h1 h2 z0 zz z1
  have nb := val_bd n0.2
  have q := cosV_ok l1.1 hva
  have cp := cosV_pos h1 hz
  have k := bet_ok (a := a) (b := b) (c := 5400000 - v) (d := 5400000 - u) (by omega) (by omega) (by omega) (by omega) (by omega) (by omega)
  have o1 := (one_bd l1.1).2.1
  have o2 := (one_bd hva).2.1
  -- the numerator has the difference at each whole angle between
  have nh : ∀ z : Int, u ≤ z → z ≤ v → Has (1 / 2 ^ 30) (numN a b c d u v).1 (numN a b c d u v).2.1 (H (5400000 - c) - H (a - (5400000 - z))) := fun z g1 g2 => by
    have p1 := hav_has (x := 5400000 - c) hd (by omega) (by omega)
    have p2 := hav_has (x := a - (5400000 - z)) hw (by omega) (by omega)
    have e1 : (havR (a - (5400000 - u)) (b - (5400000 - v))).1 = (betV a b (5400000 - v) (5400000 - u)).1 ∧ (havR (a - (5400000 - u)) (b - (5400000 - v))).2.1 = (betV a b (5400000 - v) (5400000 - u)).2 := by rw [k.1]; exact ⟨rfl, rfl⟩
    rw [e1.1, e1.2] at p2
    have s := sub_has p1 p2
    have ev : numN a b c d u v = ((havR (5400000 - d) (5400000 - c)).1 - (betV a b (5400000 - v) (5400000 - u)).2, (havR (5400000 - d) (5400000 - c)).2.1 - (betV a b (5400000 - v) (5400000 - u)).1, 0) := by
      have := n0.1
      unfold numN subR at this ⊢
      obtain ⟨hb, hf⟩ := both_ok this
      rw [if_pos hb]
      exact (fit_ok hf).2
    rw [ev]
    exact Has.wide s (by decide +kernel) (Int.le_refl _) (Int.le_refl _)
  have ch : Has (3 * (1 / 2 ^ 31)) (cosV a b (5400000 - v) (5400000 - u)).1 (cosV a b (5400000 - v) (5400000 - u)).2 (C a * C (5400000 - j) / 1073741824) := by
    have p2 := mul_has (by decide +kernel) (by decide +kernel) (cos_has (x := a) l1.1 (by omega) (by omega)) (cos_has (x := 5400000 - j) hva (by omega) (by omega)) o1.2.1 o2.2.1 o1.1 o1.2.2.1 o2.1 o2.2.2.1
    rw [q.1]
    exact p2
  have ni := nh i i1 i2
  have nj := nh j j1 j2
  have sm := H_sum a (5400000 - j)
  have zc0 : ((0 : Int) : Rat) = 0 := rfl
  have nhi : 0 ≤ (numN a b c d u v).2.1 := by
    refine of_cast (e := 1 / 2 ^ 20) ?_ (by decide +kernel)
    rw [zc0]
    unfold Has at ni
    generalize H (5400000 - c) = x1 at *
    generalize H (a - (5400000 - i)) = x2 at *
    generalize ((numN a b c d u v).2.1 : Rat) = x3 at *
    grind
  have nlo : (numN a b c d u v).1 ≤ (cosV a b (5400000 - v) (5400000 - u)).2 := by
    refine of_cast (e := 1 / 2 ^ 20) ?_ (by decide +kernel)
    unfold Has at nj ch
    generalize H (5400000 - c) = x1 at *
    generalize H (a - (5400000 - j)) = x2 at *
    generalize ((numN a b c d u v).1 : Rat) = x3 at *
    generalize ((cosV a b (5400000 - v) (5400000 - u)).2 : Rat) = x4 at *
    generalize C a * C (5400000 - j) / 1073741824 = x5 at *
    generalize H (10800000 - a - (5400000 - j)) = x6 at *
    grind
  clear nh ni nj ch sm i3 j3
  have hdv : validB (cosV a b (5400000 - v) (5400000 - u)).1 (cosV a b (5400000 - v) (5400000 - u)).2 = true := val_mk (by omega) q.2.2.2.1 (by omega)
  have hnv := n0.2
  have cd := q.2.2.2.1
  clear q k n0
  generalize numN a b c d u v = N at *
  generalize (cosV a b (5400000 - v) (5400000 - u)) = D at *
  unfold topS
  by_cases c1 : D.1 ≤ 0 ∧ 0 ≤ D.2
  · right
    rw [if_pos c1]
  · left
    rw [if_neg c1]
    by_cases c5 : (divR N.1 N.2.1 D.1 D.2).2.2 = 5
    · rw [if_pos c5, ahav_all]
      rfl
    · have c0 : (divR N.1 N.2.1 D.1 D.2).2.2 = 0 := by
        rcases div_err hnv hdv c1 with q | q
        · exact q
        · exact absurd q c5
      rw [if_neg c5, if_neg (by omega)]
      have vd := div_val c0
      have bd := val_bd vd
      -- the quotient reaches the numbers from 0 to 1
      have ev : divR N.1 N.2.1 D.1 D.2 = (divL N.1 N.2.1 D.1 D.2, divH N.1 N.2.1 D.1 D.2, 0) := by
        have q := c0
        unfold divR at q ⊢
        obtain ⟨hb, hf⟩ := both_ok q
        rw [if_pos hb]
        split at hf
        · cases hf
        · rename_i hz
          rw [if_neg hz]
          exact (fit_ok hf).2
      have dp : 0 < D.1 := by omega
      have lo1 : (divR N.1 N.2.1 D.1 D.2).1 ≤ 1073741824 := by
        have p := (div_has (a := N.1) (b := N.2.1) (c := D.1) (d := D.2) (x := N.1) (y := D.2) (.inl dp) (Int.le_refl _) nb.2.1 cd (Int.le_refl _)).1
        have : flD (N.1 * 1073741824) D.2 ≤ 1073741824 := by
          unfold flD
          rw [if_pos (by omega)]
          have : N.1 * 1073741824 ≤ 1073741824 * D.2 := by omega
          exact Int.ediv_le_of_le_mul (by omega) this
        rw [ev]
        dsimp only
        omega
      have hi0 : 0 ≤ (divR N.1 N.2.1 D.1 D.2).2.1 := by
        have p := (div_has (a := N.1) (b := N.2.1) (c := D.1) (d := D.2) (x := N.2.1) (y := D.1) (.inl dp) nb.2.1 (Int.le_refl _) (Int.le_refl _) cd).2
        have : 0 ≤ ceD (N.2.1 * 1073741824) D.1 := by
          unfold ceD flD
          rw [if_pos dp]
          have : -(N.2.1 * 1073741824) / D.1 ≤ 0 := Int.ediv_nonpos_of_nonpos_of_neg (by omega) (by omega)
          omega
        rw [ev]
        dsimp only
        omega
      unfold fin23 ahavR
      rw [vd]
      simp only [Bool.true_eq_false, if_false]
      rw [if_pos (show max (divR N.1 N.2.1 D.1 D.2).1 0 ≤ min (divR N.1 N.2.1 D.1 D.2).2.1 1073741824 by omega), acosR_in _ _ (by omega) (by omega) (by omega)]
      rfl
end TA
end Go.Proofs.Ytcjkfchjcealbaa
