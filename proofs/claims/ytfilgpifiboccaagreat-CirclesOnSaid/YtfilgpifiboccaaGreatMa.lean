/-
  The sine's plain law, first part: differences of the polynomials, their approximations in integers, and numbers side by side in one number. No program here.
-/
namespace Go.Proofs.YtfilgpifiboccaaGreat
namespace SM
/-! bounds of differences -/
theorem mulB {u v a b : Rat} (hu : -a ≤ u ∧ u ≤ a) (hv : -b ≤ v ∧ v ≤ b) : -(a * b) ≤ u * v ∧ u * v ≤ a * b := by
  have ha : 0 ≤ a := by grind
  have hb : 0 ≤ b := by grind
  have h1 : 0 ≤ (a - u) * (b + v) := Rat.mul_nonneg (by grind) (by grind)
  have h2 : 0 ≤ (a + u) * (b - v) := Rat.mul_nonneg (by grind) (by grind)
  have h3 : 0 ≤ (a - u) * (b - v) := Rat.mul_nonneg (by grind) (by grind)
  have h4 : 0 ≤ (a + u) * (b + v) := Rat.mul_nonneg (by grind) (by grind)
  constructor <;> grind

def d1 (f : Nat → Rat) (n : Nat) : Rat := f (n + 1) - f n
def d2 (f : Nat → Rat) (n : Nat) : Rat := f (n + 2) - 2 * f (n + 1) + f n
def d3 (f : Nat → Rat) (n : Nat) : Rat := f (n + 3) - 3 * f (n + 2) + 3 * f (n + 1) - f n
def d4 (f : Nat → Rat) (n : Nat) : Rat := f (n + 4) - 4 * f (n + 3) + 6 * f (n + 2) - 4 * f (n + 1) + f n
theorem d1_step (f : Nat → Rat) (n : Nat) : d1 f (n + 1) = d1 f n + d2 f n := by simp only [d1, d2]; grind
theorem d2_step (f : Nat → Rat) (n : Nat) : d2 f (n + 1) = d2 f n + d3 f n := by simp only [d2, d3]; grind
theorem d3_step (f : Nat → Rat) (n : Nat) : d3 f (n + 1) = d3 f n + d4 f n := by simp only [d3, d4]; grind

structure Jet where
  b0 : Rat
  b1 : Rat
  b2 : Rat
  b3 : Rat
  b4 : Rat
def Wit (v b : Rat) : Prop := -b ≤ v ∧ v ≤ b
structure Has (N : Nat) (f : Nat → Rat) (j : Jet) : Prop where
  h0 : ∀ n, n ≤ N → Wit (f n) j.b0
  h1 : ∀ n, n + 1 ≤ N → Wit (d1 f n) j.b1
  h2 : ∀ n, n + 2 ≤ N → Wit (d2 f n) j.b2
  h3 : ∀ n, n + 3 ≤ N → Wit (d3 f n) j.b3
  h4 : ∀ n, n + 4 ≤ N → Wit (d4 f n) j.b4
theorem Wit.mul {u v a b : Rat} (hu : Wit u a) (hv : Wit v b) : Wit (u * v) (a * b) := mulB hu hv
theorem Wit.add {u v a b : Rat} (hu : Wit u a) (hv : Wit v b) : Wit (u + v) (a + b) := by unfold Wit at *; grind
theorem Wit.scale {v b c : Rat} (hv : Wit v b) (hc : 0 ≤ c) : Wit (c * v) (c * b) := Wit.mul (u := c) (a := c) ⟨by grind, by grind⟩ hv
theorem Wit.eq {u v b : Rat} (hv : Wit v b) (h : u = v) : Wit u b := by rw [h]; exact hv
theorem Wit.mono {v b c : Rat} (hv : Wit v b) (h : b ≤ c) : Wit v c := by unfold Wit at *; grind

def jmul (x y : Jet) : Jet := ⟨x.b0 * y.b0, x.b0 * y.b1 + x.b1 * y.b0, x.b0 * y.b2 + 2 * (x.b1 * y.b1) + x.b2 * y.b0,
  x.b0 * y.b3 + 3 * (x.b1 * y.b2) + 3 * (x.b2 * y.b1) + x.b3 * y.b0,
  x.b0 * y.b4 + 4 * (x.b1 * y.b3) + 6 * (x.b2 * y.b2) + 4 * (x.b3 * y.b1) + x.b4 * y.b0⟩
theorem Has.mul {N : Nat} {f g : Nat → Rat} {x y : Jet} (hf : Has N f x) (hg : Has N g y) : Has N (fun n => f n * g n) (jmul x y) := by
  refine ⟨fun n hn => (hf.h0 n hn).mul (hg.h0 n hn), fun n hn => ?_, fun n hn => ?_, fun n hn => ?_, fun n hn => ?_⟩
  · refine (((hf.h0 (n + 1) (by omega)).mul (hg.h1 n (by omega))).add ((hf.h1 n (by omega)).mul (hg.h0 n (by omega)))).eq ?_
    simp only [d1]; grind
  · refine ((((hf.h0 (n + 2) (by omega)).mul (hg.h2 n (by omega))).add (((hf.h1 (n + 1) (by omega)).mul (hg.h1 n (by omega))).scale (c := 2) (by grind))).add ((hf.h2 n (by omega)).mul (hg.h0 n (by omega)))).eq ?_
    simp only [d1, d2]; grind
  · refine (((((hf.h0 (n + 3) (by omega)).mul (hg.h3 n (by omega))).add (((hf.h1 (n + 2) (by omega)).mul (hg.h2 n (by omega))).scale (c := 3) (by grind))).add (((hf.h2 (n + 1) (by omega)).mul (hg.h1 n (by omega))).scale (c := 3) (by grind))).add ((hf.h3 n (by omega)).mul (hg.h0 n (by omega)))).eq ?_
    simp only [d1, d2, d3]; grind
  · refine ((((((hf.h0 (n + 4) (by omega)).mul (hg.h4 n (by omega))).add (((hf.h1 (n + 3) (by omega)).mul (hg.h3 n (by omega))).scale (c := 4) (by grind))).add (((hf.h2 (n + 2) (by omega)).mul (hg.h2 n (by omega))).scale (c := 6) (by grind))).add (((hf.h3 (n + 1) (by omega)).mul (hg.h1 n (by omega))).scale (c := 4) (by grind))).add ((hf.h4 n (by omega)).mul (hg.h0 n (by omega)))).eq ?_
    simp only [d1, d2, d3, d4]; grind
/-- one less. -/
def jless (x : Jet) : Jet := ⟨1 + x.b0, x.b1, x.b2, x.b3, x.b4⟩
theorem Has.less {N : Nat} {f : Nat → Rat} {x : Jet} (hf : Has N f x) : Has N (fun n => 1 - f n) (jless x) := by
  refine ⟨fun n hn => ?_, fun n hn => ?_, fun n hn => ?_, fun n hn => ?_, fun n hn => ?_⟩
  · have := hf.h0 n hn; unfold Wit jless at *; grind
  · have := hf.h1 n hn; unfold Wit jless at *; simp only [d1] at *; grind
  · have := hf.h2 n hn; unfold Wit jless at *; simp only [d2] at *; grind
  · have := hf.h3 n hn; unfold Wit jless at *; simp only [d3] at *; grind
  · have := hf.h4 n hn; unfold Wit jless at *; simp only [d4] at *; grind
def jscale (c : Rat) (x : Jet) : Jet := ⟨c * x.b0, c * x.b1, c * x.b2, c * x.b3, c * x.b4⟩
theorem Has.scale {N : Nat} {f : Nat → Rat} {x : Jet} {c : Rat} (hc : 0 ≤ c) (hf : Has N f x) : Has N (fun n => c * f n) (jscale c x) := by
  refine ⟨fun n hn => (hf.h0 n hn).scale hc, fun n hn => ((hf.h1 n hn).scale hc).eq ?_, fun n hn => ((hf.h2 n hn).scale hc).eq ?_, fun n hn => ((hf.h3 n hn).scale hc).eq ?_, fun n hn => ((hf.h4 n hn).scale hc).eq ?_⟩
  · simp only [d1]; grind
  · simp only [d2]; grind
  · simp only [d3]; grind
  · simp only [d4]; grind
def jline (c : Rat) (N : Nat) : Jet := ⟨c * N, c, 0, 0, 0⟩
theorem has_line {c : Rat} (hc : 0 ≤ c) (N : Nat) : Has N (fun n => c * (n : Rat)) (jline c N) := by
  refine ⟨fun n hn => ?_, fun n _ => ?_, fun n _ => ?_, fun n _ => ?_, fun n _ => ?_⟩
  · have h1 : (n : Rat) ≤ (N : Rat) := by exact_mod_cast hn
    have h2 := Rat.mul_le_mul_of_nonneg_left h1 hc
    have h3 : 0 ≤ c * (n : Rat) := Rat.mul_nonneg hc (by exact_mod_cast Nat.zero_le n)
    unfold Wit jline; grind
  · refine Wit.eq (v := c) ⟨by simp only [jline]; grind, by simp only [jline]; grind⟩ ?_
    simp only [d1]; push_cast; grind
  · refine Wit.eq (v := 0) ⟨by simp only [jline]; grind, by simp only [jline]; grind⟩ ?_
    simp only [d2]; push_cast; grind
  · refine Wit.eq (v := 0) ⟨by simp only [jline]; grind, by simp only [jline]; grind⟩ ?_
    simp only [d3]; push_cast; grind
  · refine Wit.eq (v := 0) ⟨by simp only [jline]; grind, by simp only [jline]; grind⟩ ?_
    simp only [d4]; push_cast; grind

theorem inv_nonneg' (a : Rat) (h : 0 ≤ a) : 0 ≤ 1 / a := by
  rw [Rat.div_def, Rat.one_mul]
  by_cases h0 : a = 0
  · subst h0; simp
  · have : 0 < a := by grind
    have := Rat.inv_pos.2 this
    grind
/-! the polynomials: the first terms of the series, in Horner's form -/
def hR (odd : Nat) (Y : Rat) : Nat → Rat → Rat
  | 0, h => h
  | k + 1, h => hR odd Y k (1 / (((2 * k + 1 + odd) * (2 * k + 2 + odd) : Nat) : Rat) * (Y * (1 - h)))
def hJ (odd : Nat) (Y : Jet) : Nat → Jet → Jet
  | 0, h => h
  | k + 1, h => hJ odd Y k (jscale (1 / (((2 * k + 1 + odd) * (2 * k + 2 + odd) : Nat) : Rat)) (jmul Y (jless h)))
theorem has_h (odd N : Nat) (Y : Nat → Rat) (y : Jet) (hY : Has N Y y) : ∀ (k : Nat) (h : Nat → Rat) (x : Jet), Has N h x → Has N (fun n => hR odd (Y n) k (h n)) (hJ odd y k x)
  | 0, h, x, hh => hh
  | k + 1, h, x, hh => has_h odd N Y y hY k _ _ ((hY.mul hh.less).scale (inv_nonneg' _ (by exact_mod_cast Nat.zero_le _)))
def pi96 : Rat := 248902613312231085230521944622 / 79228162514264337593543950336
def th : Rat := pi96 / 10800000
def xR (n : Nat) : Rat := th * (n : Rat)
def tS (n : Nat) : Rat := xR n * (1 - hR 1 (xR n * xR n) 10 0)
def tC (n : Nat) : Rat := 1 - hR 0 (xR n * xR n) 10 0
def NN : Nat := 2700100
def jx : Jet := jline th NN
def jz : Jet := ⟨0, 0, 0, 0, 0⟩
def jS : Jet := jmul jx (jless (hJ 1 (jmul jx jx) 10 jz))
def jC : Jet := jless (hJ 0 (jmul jx jx) 10 jz)
theorem has_z (N : Nat) : Has N (fun _ => 0) jz := by
  refine ⟨fun n _ => ?_, fun n _ => ?_, fun n _ => ?_, fun n _ => ?_, fun n _ => ?_⟩ <;> (simp only [d1, d2, d3, d4, jz, Wit]; grind)
theorem has_x : Has NN xR jx := has_line (by unfold th pi96; grind) NN
theorem has_S : Has NN tS jS := has_x.mul (has_h 1 NN _ _ (has_x.mul has_x) 10 _ _ (has_z NN)).less
theorem has_C : Has NN tC jC := (has_h 0 NN _ _ (has_x.mul has_x) 10 _ _ (has_z NN)).less
/-- The fourth differences, in units of 2^-86: less than one. -/
theorem jS4 : 77371252455336267181195264 * jS.b4 ≤ 1 := by decide +kernel
theorem jC4 : 77371252455336267181195264 * jC.b4 ≤ 1 := by decide +kernel
def S : Nat := 79228162514264337593543950336
def PI96 : Nat := 248902613312231085230521944622
def hN (odd y : Nat) (k h : Nat) : Nat := Nat.rec (motive := fun _ => Nat → Nat) (fun h => h) (fun k ih h => ih (((y / ((2*k+1+odd)*(2*k+2+odd))) * (S - h)) / S)) k h
def xN (n : Nat) : Nat := n * PI96 / 10800000
def aS (n : Nat) : Nat := (xN n * (S - hN 1 ((xN n * xN n) / S) 10 0)) / 81129638414606681695789005144064
def aC (n : Nat) : Nat := (S - hN 0 ((xN n * xN n) / S) 10 0) / 1024
theorem div_bd (a d : Nat) (hd : 0 < d) : (d : Rat) * ((a / d : Nat) : Rat) ≤ (a : Rat) ∧ (a : Rat) ≤ (d : Rat) * ((a / d : Nat) : Rat) + (d : Rat) := by
  have h := Nat.div_add_mod a d
  have h2 := Nat.mod_lt a hd
  have e : (a : Rat) = (d : Rat) * ((a / d : Nat) : Rat) + ((a % d : Nat) : Rat) := by exact_mod_cast h.symm
  have e0 : (0 : Rat) ≤ ((a % d : Nat) : Rat) := by exact_mod_cast Nat.zero_le _
  have e1 : ((a % d : Nat) : Rat) ≤ (d : Rat) := by exact_mod_cast Nat.le_of_lt h2
  constructor <;> grind
theorem hN_succ (odd y k h : Nat) : hN odd y (k + 1) h = hN odd y k (((y / ((2*k+1+odd)*(2*k+2+odd))) * (S - h)) / S) := rfl
def SR : Rat := 79228162514264337593543950336
theorem S_cast : ((S : Nat) : Rat) = SR := rfl
theorem lin_up {SR DS p1 p2 p3 p4 p5 X : Rat} (h32 : 32 ≤ SR) (hDS : 2 * SR ≤ DS) (w1 : -(7 / 10 * SR * 8) ≤ p1 ∧ p1 ≤ 7 / 10 * SR * 8) (w2 : -(4 * SR) ≤ p2 ∧ p2 ≤ 4 * SR) (w3 : -(4 * 8) ≤ p3 ∧ p3 ≤ 4 * 8)
    (w4 : -DS ≤ p4 ∧ p4 ≤ DS) (w5 : 0 ≤ p5) (w6 : p5 ≤ DS) (key : X = -p1 + p2 - p3 + p4 + p5) : DS * (-8) ≤ X ∧ X ≤ DS * 8 := by
  constructor <;> grind
/-- One step. -/
theorem step_bd {y q h h' d : Nat} {Y H D : Rat} (hd : 2 ≤ d) (hD : (d : Rat) = D) (hq : q = y / d) (hh' : h' = q * (S - h) / S)
    (hY : 0 ≤ SR * Y - (y : Rat) ∧ SR * Y - (y : Rat) ≤ 4) (hY1 : Y ≤ 7 / 10) (hhS : h ≤ S) (hH : Wit (SR * H - (h : Rat)) 8) :
    h' ≤ S ∧ Wit (SR * (1 / D * (Y * (1 - H))) - (h' : Rat)) 8 := by
  have hS0 : (0 : Rat) < SR := by unfold SR; grind
  have hS32 : (32 : Rat) ≤ SR := by unfold SR; grind
  have hDp : 2 ≤ D := by rw [← hD]; exact_mod_cast hd
  have k1 := div_bd y d (by omega)
  rw [← hq, hD] at k1
  have k2 := div_bd (q * (S - h)) S (by decide)
  rw [← hh', S_cast] at k2
  have ec : ((q * (S - h) : Nat) : Rat) = (q : Rat) * (SR - (h : Rat)) := by
    rw [← S_cast]
    have : ((S - h : Nat) : Rat) = (S : Rat) - (h : Rat) := by
      have e := Nat.sub_add_cancel hhS
      have e2 : ((S - h : Nat) : Rat) + (h : Rat) = (S : Rat) := by exact_mod_cast e
      grind
    push_cast
    rw [this]
  rw [ec] at k2
  have hr0 : (0 : Rat) ≤ (h : Rat) := by exact_mod_cast Nat.zero_le h
  have hrS : (h : Rat) ≤ SR := by rw [← S_cast]; exact_mod_cast hhS
  have yr0 : (0 : Rat) ≤ (y : Rat) := by exact_mod_cast Nat.zero_le y
  have qr0 : (0 : Rat) ≤ (q : Rat) := by exact_mod_cast Nat.zero_le q
  have hDi : D * (1 / D * (Y * (1 - H))) = Y * (1 - H) := by
    have : D ≠ 0 := by grind
    grind
  have hYS0 : SR * Y ≤ SR * (7 / 10) := Rat.mul_le_mul_of_nonneg_left hY1 (by grind)
  have hyS : y ≤ S := by
    have : (y : Rat) ≤ (S : Rat) := by rw [S_cast]; grind
    exact_mod_cast this
  have hqS : q ≤ S := by rw [hq]; exact Nat.le_trans (Nat.div_le_self _ _) hyS
  generalize hZ : 1 / D * (Y * (1 - H)) = Z at *
  generalize (y : Rat) = yr at *
  generalize (q : Rat) = qr at *
  have hYS : SR * Y ≤ SR * (7 / 10) := Rat.mul_le_mul_of_nonneg_left hY1 (by grind)
  have w1 : Wit (yr * (SR * H - (h : Rat))) (7 / 10 * SR * 8) := Wit.mul ⟨by grind, by grind⟩ hH
  have w2 : Wit ((SR * Y - yr) * (SR - (h : Rat))) (4 * SR) := Wit.mul ⟨by grind, by grind⟩ ⟨by grind, by grind⟩
  have w3 : Wit ((SR * Y - yr) * (SR * H - (h : Rat))) (4 * 8) := Wit.mul ⟨by grind, by grind⟩ hH
  have w4 : Wit ((yr - D * qr) * (SR - (h : Rat))) (D * SR) := Wit.mul ⟨by grind, by grind⟩ ⟨by grind, by grind⟩
  have w5 : 0 ≤ D * (qr * (SR - (h : Rat)) - SR * (h' : Rat)) := Rat.mul_nonneg (by grind) (by grind)
  have w6 : D * (qr * (SR - (h : Rat)) - SR * (h' : Rat)) ≤ D * SR := Rat.mul_le_mul_of_nonneg_left (by grind) (by grind)
  have key : D * SR * (SR * Z - (h' : Rat)) = - (yr * (SR * H - (h : Rat))) + (SR * Y - yr) * (SR - (h : Rat)) - (SR * Y - yr) * (SR * H - (h : Rat)) + (yr - D * qr) * (SR - (h : Rat)) + D * (qr * (SR - (h : Rat)) - SR * (h' : Rat)) := by
    have : D * SR * (SR * Z) = SR * SR * (D * Z) := by grind
    have e2 : D * SR * (SR * Z - (h' : Rat)) = SR * SR * (D * Z) - D * SR * (h' : Rat) := by grind
    rw [e2, hDi]; grind
  have hDS : 2 * SR ≤ D * SR := by
    have := Rat.mul_le_mul_of_nonneg_left hDp (show 0 ≤ SR by grind)
    grind
  have hDS0 : 0 < D * SR := by grind
  obtain ⟨lo, up⟩ := lin_up hS32 hDS w1 w2 w3 w4 w5 w6 key
  refine ⟨?_, ?_, ?_⟩
  · have : h' ≤ S := by
      rw [hh']
      apply Nat.div_le_of_le_mul
      exact Nat.mul_le_mul hqS (Nat.sub_le _ _)
    exact this
  · exact Rat.le_of_mul_le_mul_left lo hDS0
  · exact Rat.le_of_mul_le_mul_left up hDS0
theorem hN_bd (odd y : Nat) (Y : Rat) (hY : 0 ≤ SR * Y - (y : Rat) ∧ SR * Y - (y : Rat) ≤ 4) (hY1 : Y ≤ 7 / 10) :
    ∀ (k h : Nat) (H : Rat), h ≤ S → Wit (SR * H - (h : Rat)) 8 → hN odd y k h ≤ S ∧ Wit (SR * hR odd Y k H - (hN odd y k h : Rat)) 8
  | 0, h, H, h1, h2 => ⟨h1, h2⟩
  | k + 1, h, H, h1, h2 => by
    have hd : 2 ≤ (2 * k + 1 + odd) * (2 * k + 2 + odd) := by
      have : 1 * 2 ≤ (2 * k + 1 + odd) * (2 * k + 2 + odd) := Nat.mul_le_mul (by omega) (by omega)
      omega
    obtain ⟨i1, i2⟩ := step_bd hd rfl rfl rfl hY hY1 h1 h2
    rw [hN_succ]
    exact hN_bd odd y Y hY hY1 k _ _ i1 i2

theorem xN_bd (n : Nat) : 0 ≤ SR * xR n - (xN n : Rat) ∧ SR * xR n - (xN n : Rat) ≤ 1 := by
  have h := div_bd (n * PI96) 10800000 (by decide)
  have e : SR * xR n = (n : Rat) * 248902613312231085230521944622 / 10800000 := by
    unfold SR xR th pi96; grind
  have e2 : ((n * PI96 : Nat) : Rat) = (n : Rat) * 248902613312231085230521944622 := by
    have : (PI96 : Rat) = 248902613312231085230521944622 := rfl
    rw [← this]; push_cast; rfl
  rw [e2] at h
  unfold xN
  rw [e]
  have h3 : (((10800000 : Nat) : Rat)) = 10800000 := rfl
  rw [h3] at h
  constructor <;> grind
theorem xR_bd (n : Nat) (hn : n ≤ 2700100) : 0 ≤ xR n ∧ xR n ≤ 4 / 5 := by
  have h0 : (0 : Rat) ≤ (n : Rat) := by exact_mod_cast Nat.zero_le n
  have h1 : (n : Rat) ≤ 2700100 := by exact_mod_cast hn
  unfold xR th pi96
  constructor <;> grind
theorem yN_bd (n : Nat) (hn : n ≤ 2700100) : (0 ≤ SR * (xR n * xR n) - ((xN n * xN n / S : Nat) : Rat) ∧ SR * (xR n * xR n) - ((xN n * xN n / S : Nat) : Rat) ≤ 4) ∧ xR n * xR n ≤ 7 / 10 := by
  have hx := xN_bd n
  have hr := xR_bd n hn
  have hd := div_bd (xN n * xN n) S (by decide)
  rw [S_cast] at hd
  have ec : ((xN n * xN n : Nat) : Rat) = (xN n : Rat) * (xN n : Rat) := by push_cast; rfl
  rw [ec] at hd
  have hS32 : (32 : Rat) ≤ SR := by unfold SR; grind
  have x0 : (0 : Rat) ≤ (xN n : Rat) := by exact_mod_cast Nat.zero_le _
  generalize ((xN n * xN n / S : Nat) : Rat) = y at *
  generalize (xN n : Rat) = X at *
  generalize xR n = r at *
  have p1 : 0 ≤ (SR * r - X) * (SR * r + X) := Rat.mul_nonneg (by grind) (by grind)
  have hSr : SR * r ≤ SR * (4 / 5) := Rat.mul_le_mul_of_nonneg_left hr.2 (by grind)
  have p2 : 0 ≤ (1 - (SR * r - X)) * (SR * r + X) := Rat.mul_nonneg (by grind) (by grind)
  have key : SR * (SR * (r * r)) = (SR * r - X) * (SR * r + X) + X * X := by grind
  have sr2 : r * r ≤ 7 / 10 := by
    have q1 : 0 ≤ (4 / 5 - r) * (4 / 5 + r) := Rat.mul_nonneg (by grind) (by grind)
    grind
  have hSp : (0 : Rat) < SR := by grind
  refine ⟨⟨?_, ?_⟩, sr2⟩
  · have : SR * y ≤ SR * (SR * (r * r)) := by grind
    have := Rat.le_of_mul_le_mul_left this hSp
    grind
  · have e3 : SR * (SR * (r * r)) ≤ SR * (y + 4) := by
      have : (1 - (SR * r - X)) * (SR * r + X) = (SR * r + X) - (SR * r - X) * (SR * r + X) := by grind
      grind
    have := Rat.le_of_mul_le_mul_left e3 hSp
    grind
def G86 : Rat := 77371252455336267181195264
theorem aC_bd (n : Nat) (hn : n ≤ 2700100) : Wit (G86 * tC n - (aC n : Rat)) 2 := by
  obtain ⟨h1, h2⟩ := yN_bd n hn
  obtain ⟨i1, i2⟩ := hN_bd 0 (xN n * xN n / S) _ h1 h2 10 0 0 (Nat.zero_le _) ⟨by grind, by grind⟩
  unfold tC aC
  generalize hN 0 (xN n * xN n / S) 10 0 = h at *
  generalize hR 0 (xR n * xR n) 10 0 = H at *
  have hd := div_bd (S - h) 1024 (by decide)
  have ec : ((S - h : Nat) : Rat) = SR - (h : Rat) := by
    have e := Nat.sub_add_cancel i1
    have e2 : ((S - h : Nat) : Rat) + (h : Rat) = (S : Rat) := by exact_mod_cast e
    rw [S_cast] at e2; grind
  rw [ec] at hd
  have h3 : (((1024 : Nat) : Rat)) = 1024 := rfl
  rw [h3] at hd
  have eG : SR = 1024 * G86 := by unfold SR G86; grind
  unfold Wit at *
  rw [eG] at i2 hd
  constructor <;> grind
theorem aS_bd (n : Nat) (hn : n ≤ 2700100) : Wit (G86 * tS n - (aS n : Rat)) 2 := by
  obtain ⟨h1, h2⟩ := yN_bd n hn
  obtain ⟨i1, i2⟩ := hN_bd 1 (xN n * xN n / S) _ h1 h2 10 0 0 (Nat.zero_le _) ⟨by grind, by grind⟩
  have hx := xN_bd n
  have hr := xR_bd n hn
  unfold tS aS
  generalize hN 1 (xN n * xN n / S) 10 0 = h at *
  generalize hR 1 (xR n * xR n) 10 0 = H at *
  have hd := div_bd (xN n * (S - h)) 81129638414606681695789005144064 (by decide)
  have ec : ((xN n * (S - h) : Nat) : Rat) = (xN n : Rat) * (SR - (h : Rat)) := by
    have e := Nat.sub_add_cancel i1
    have e2 : ((S - h : Nat) : Rat) + (h : Rat) = (S : Rat) := by exact_mod_cast e
    rw [S_cast] at e2
    push_cast
    have : ((S - h : Nat) : Rat) = SR - (h : Rat) := by grind
    rw [this]
  rw [ec] at hd
  have h3 : (((81129638414606681695789005144064 : Nat) : Rat)) = 1024 * SR := by
    have : ((81129638414606681695789005144064 : Nat) : Rat) = 81129638414606681695789005144064 := rfl
    rw [this]; unfold SR; grind
  rw [h3] at hd
  have hr0 : (0 : Rat) ≤ (h : Rat) := by exact_mod_cast Nat.zero_le h
  have hrS : (h : Rat) ≤ SR := by rw [← S_cast]; exact_mod_cast i1
  have x0 : (0 : Rat) ≤ (xN n : Rat) := by exact_mod_cast Nat.zero_le _
  have hS32 : (32 : Rat) ≤ SR := by unfold SR; grind
  have eG : SR = 1024 * G86 := by unfold SR G86; grind
  generalize ((xN n * (S - h) / 81129638414606681695789005144064 : Nat) : Rat) = a at *
  generalize (xN n : Rat) = X at *
  generalize xR n = r at *
  generalize (h : Rat) = hh at *
  have hSr : SR * r ≤ SR * (4 / 5) := Rat.mul_le_mul_of_nonneg_left hr.2 (by grind)
  -- SR * (SR * (r * (1 - H))) against X * (SR - hh)
  have w1 : Wit ((SR * r - X) * (SR - hh)) (1 * SR) := Wit.mul ⟨by grind, by grind⟩ ⟨by grind, by grind⟩
  have w2 : Wit ((SR * r) * (SR * H - hh)) (SR * (4 / 5) * 8) := Wit.mul ⟨by grind, by grind⟩ i2
  have key : SR * (SR * (r * (1 - H))) = X * (SR - hh) + (SR * r - X) * (SR - hh) - (SR * r) * (SR * H - hh) := by grind
  have key2 : SR * (1024 * (G86 * (r * (1 - H)))) = SR * (SR * (r * (1 - H))) := by rw [← Rat.mul_assoc 1024, ← eG]
  rw [key] at key2
  have hSp : (0 : Rat) < SR * 1024 := by grind
  generalize G86 * (r * (1 - H)) = g at *
  generalize X * (SR - hh) = P at *
  generalize (SR * r - X) * (SR - hh) = P1 at *
  generalize (SR * r) * (SR * H - hh) = P2 at *
  unfold Wit at *
  constructor
  · have : (SR * 1024) * (-2) ≤ (SR * 1024) * (g - a) := by grind
    exact Rat.le_of_mul_le_mul_left this hSp
  · have : (SR * 1024) * (g - a) ≤ (SR * 1024) * 2 := by grind
    exact Rat.le_of_mul_le_mul_left this hSp
/-! numbers side by side in one number -/
def pkN (f : Nat → Nat) (m : Nat) : Nat := Nat.rec (motive := fun _ => Nat) 0 (fun i acc => acc + f i * 2 ^ (96 * i)) m
theorem pkN_zero (f : Nat → Nat) : pkN f 0 = 0 := rfl
theorem pkN_succ (f : Nat → Nat) (m : Nat) : pkN f (m + 1) = pkN f m + f m * 2 ^ (96 * m) := rfl
theorem pkN_lt (f : Nat → Nat) : ∀ m, (∀ i, i < m → f i < 2 ^ 96) → pkN f m < 2 ^ (96 * m)
  | 0, _ => by rw [pkN_zero]; simp
  | m + 1, h => by
    have ih := pkN_lt f m (fun i hi => h i (by omega))
    have hm := h m (by omega)
    rw [pkN_succ, show 96 * (m + 1) = 96 + 96 * m by omega, Nat.pow_add]
    have : (f m + 1) * 2 ^ (96 * m) ≤ 2 ^ 96 * 2 ^ (96 * m) := Nat.mul_le_mul_right _ hm
    rw [Nat.add_mul] at this
    omega
theorem land_split (k a b x y : Nat) (ha : a < 2 ^ k) (hb : b < 2 ^ k) : (a + x * 2 ^ k) &&& (b + y * 2 ^ k) = (a &&& b) + (x &&& y) * 2 ^ k := by
  have e : ∀ u z : Nat, u + z * 2 ^ k = 2 ^ k * z + u := fun u z => by rw [Nat.mul_comm, Nat.add_comm]
  have hab : a &&& b < 2 ^ k := Nat.and_lt_two_pow _ hb
  rw [e, e, e]
  apply Nat.eq_of_testBit_eq
  intro j
  rw [Nat.testBit_and, Nat.testBit_two_pow_mul_add _ ha, Nat.testBit_two_pow_mul_add _ hb, Nat.testBit_two_pow_mul_add _ hab]
  split <;> simp
theorem pkN_land (f g : Nat → Nat) : ∀ m, (∀ i, i < m → f i < 2 ^ 96) → (∀ i, i < m → g i < 2 ^ 96) → pkN f m &&& pkN g m = pkN (fun i => f i &&& g i) m
  | 0, _, _ => by rw [pkN_zero, pkN_zero, pkN_zero]; rfl
  | m + 1, hf, hg => by
    rw [pkN_succ, pkN_succ, pkN_succ, land_split _ _ _ _ _ (pkN_lt f m fun i hi => hf i (by omega)) (pkN_lt g m fun i hi => hg i (by omega)), pkN_land f g m (fun i hi => hf i (by omega)) (fun i hi => hg i (by omega))]
theorem pkN_inj (f g : Nat → Nat) : ∀ m, (∀ i, i < m → f i < 2 ^ 96) → (∀ i, i < m → g i < 2 ^ 96) → pkN f m = pkN g m → ∀ i, i < m → f i = g i
  | 0, _, _, _, i, hi => by omega
  | m + 1, hf, hg, h, i, hi => by
    have h1 := pkN_lt f m fun i hi => hf i (by omega)
    have h2 := pkN_lt g m fun i hi => hg i (by omega)
    rw [pkN_succ, pkN_succ] at h
    have hp : 0 < 2 ^ (96 * m) := Nat.two_pow_pos _
    have e1 : f m = g m := by
      have a1 : (pkN f m + f m * 2 ^ (96 * m)) / 2 ^ (96 * m) = f m := by
        rw [Nat.add_mul_div_right _ _ hp, Nat.div_eq_of_lt h1, Nat.zero_add]
      have a2 : (pkN g m + g m * 2 ^ (96 * m)) / 2 ^ (96 * m) = g m := by
        rw [Nat.add_mul_div_right _ _ hp, Nat.div_eq_of_lt h2, Nat.zero_add]
      rw [← a1, h, a2]
    rw [e1] at h
    rcases Nat.lt_or_ge i m with hlt | hge
    · exact pkN_inj f g m (fun i hi => hf i (by omega)) (fun i hi => hg i (by omega)) (by omega) i hlt
    · have : i = m := by omega
      rw [this]; exact e1
theorem pkN_add (f g : Nat → Nat) : ∀ m, pkN f m + pkN g m = pkN (fun i => f i + g i) m
  | 0 => rfl
  | m + 1 => by rw [pkN_succ, pkN_succ, pkN_succ, ← pkN_add f g m, Nat.add_mul]; omega
theorem pkN_mul (c : Nat) (f : Nat → Nat) : ∀ m, c * pkN f m = pkN (fun i => c * f i) m
  | 0 => rfl
  | m + 1 => by rw [pkN_succ, pkN_succ, ← pkN_mul c f m, Nat.mul_add, Nat.mul_assoc]
/-- with signs. -/
def pk (f : Nat → Int) (m : Nat) : Int := Nat.rec (motive := fun _ => Int) 0 (fun i acc => acc + f i * (2 : Int) ^ (96 * i)) m
theorem pk_zero (f : Nat → Int) : pk f 0 = 0 := rfl
theorem pk_succ (f : Nat → Int) (m : Nat) : pk f (m + 1) = pk f m + f m * (2 : Int) ^ (96 * m) := rfl
theorem pk_add (f g : Nat → Int) : ∀ m, pk f m + pk g m = pk (fun i => f i + g i) m
  | 0 => rfl
  | m + 1 => by rw [pk_succ, pk_succ, pk_succ, ← pk_add f g m]; grind
theorem pk_mul (c : Int) (f : Nat → Int) : ∀ m, c * pk f m = pk (fun i => c * f i) m
  | 0 => by rw [pk_zero, pk_zero, Int.mul_zero]
  | m + 1 => by rw [pk_succ, pk_succ, ← pk_mul c f m]; grind
theorem pk_nat (f : Nat → Nat) : ∀ m, pk (fun i => (f i : Int)) m = (pkN f m : Int)
  | 0 => rfl
  | m + 1 => by rw [pk_succ, pkN_succ, pk_nat f m]; push_cast; rfl
theorem pk_congr (f g : Nat → Int) : ∀ m, (∀ i, i < m → f i = g i) → pk f m = pk g m
  | 0, _ => rfl
  | m + 1, h => by rw [pk_succ, pk_succ, pk_congr f g m (fun i hi => h i (by omega)), h m (by omega)]
theorem pk_toNat (f : Nat → Int) (m : Nat) (h : ∀ i, i < m → 0 ≤ f i) : (pk f m).toNat = pkN (fun i => (f i).toNat) m := by
  have : pk f m = pk (fun i => (((f i).toNat : Nat) : Int)) m := pk_congr _ _ m (fun i hi => by have := h i hi; omega)
  rw [this, pk_nat]; rfl

/-! the checks -/
def okV (r P w : Nat) : Bool := Nat.beq (Nat.land ((Nat.land (P + w * r) ((2^56 - 1) * r)) + (2^56 - 2*w) * r) (2^56 * r)) (2^56 * r)
def okD (r D : Nat) : Bool := Nat.beq (Nat.land D (2^95 * r)) (2^95 * r)
theorem bit_of_land {x b : Nat} (h : x &&& 2 ^ b = 2 ^ b) : 2 ^ b ≤ x := by
  have : x &&& 2 ^ b ≤ x := Nat.and_le_left
  omega
theorem okV_lane {m w : Nat} {v : Nat → Nat} (hv : ∀ i, i < m → v i < 2 ^ 95) (hw : 2 * w ≤ 2 ^ 56) (h : okV (pkN (fun _ => 1) m) (pkN v m) w = true) : ∀ i, i < m → 2 * w ≤ (v i + w) % 2 ^ 56 := by
  intro i hi
  have hw2 : w < 2 ^ 56 := by omega
  have h' := Nat.eq_of_beq_eq_true h
  have c56 : (2 : Nat) ^ 56 < 2 ^ 96 := by decide
  have c95 : (2 : Nat) ^ 95 + 2 ^ 56 < 2 ^ 96 := by decide
  have c57 : (2 : Nat) ^ 56 + 2 ^ 56 < 2 ^ 96 := by decide
  rw [pkN_mul, pkN_mul, pkN_mul, pkN_mul, pkN_add] at h'
  have e1 := pkN_land (fun i => v i + w * 1) (fun _ => (2 ^ 56 - 1) * 1) m (fun i hi => by have := hv i hi; omega) (fun i _ => by omega)
  change Nat.land (Nat.land _ _ + _) _ = _ at h'
  rw [show Nat.land (pkN (fun i => v i + w * 1) m) (pkN (fun _ => (2 ^ 56 - 1) * 1) m) = pkN (fun i => v i + w * 1) m &&& pkN (fun _ => (2 ^ 56 - 1) * 1) m from rfl, e1, pkN_add] at h'
  have lt2 : ∀ i, i < m → (v i + w * 1 &&& (2 ^ 56 - 1) * 1) < 2 ^ 56 := fun i _ => by rw [Nat.mul_one (2 ^ 56 - 1), Nat.and_two_pow_sub_one_eq_mod]; exact Nat.mod_lt _ (by decide)
  have e2 := pkN_land (fun i => (v i + w * 1 &&& (2 ^ 56 - 1) * 1) + (2 ^ 56 - 2 * w) * 1) (fun _ => 2 ^ 56 * 1) m (fun i hi => by have := lt2 i hi; omega) (fun i _ => by omega)
  rw [show Nat.land (pkN (fun i => (v i + w * 1 &&& (2 ^ 56 - 1) * 1) + (2 ^ 56 - 2 * w) * 1) m) (pkN (fun _ => 2 ^ 56 * 1) m) = pkN (fun i => (v i + w * 1 &&& (2 ^ 56 - 1) * 1) + (2 ^ 56 - 2 * w) * 1) m &&& pkN (fun _ => 2 ^ 56 * 1) m from rfl, e2] at h'
  have h3 := pkN_inj _ _ m (fun i hi => by
    show (_ &&& 2 ^ 56 * 1) < 2 ^ 96
    exact Nat.lt_of_le_of_lt Nat.and_le_right (by omega)) (fun i _ => by omega) h' i hi
  rw [Nat.mul_one (2 ^ 56)] at h3
  have h4 := bit_of_land h3
  rw [Nat.mul_one (2 ^ 56 - 1), Nat.and_two_pow_sub_one_eq_mod, Nat.mul_one, Nat.mul_one] at h4
  omega
theorem okD_lane {m : Nat} {d : Nat → Nat} (hd : ∀ i, i < m → d i < 2 ^ 96) (h : okD (pkN (fun _ => 1) m) (pkN d m) = true) : ∀ i, i < m → 2 ^ 95 ≤ d i := by
  intro i hi
  have h' := Nat.eq_of_beq_eq_true h
  rw [pkN_mul] at h'
  have e1 := pkN_land d (fun _ => 2 ^ 95 * 1) m hd (fun i _ => by decide)
  rw [show Nat.land (pkN d m) (pkN (fun _ => 2 ^ 95 * 1) m) = pkN d m &&& pkN (fun _ => 2 ^ 95 * 1) m from rfl, e1] at h'
  have h3 := pkN_inj _ _ m (fun i hi => Nat.lt_of_le_of_lt Nat.and_le_right (by decide)) (fun i _ => by decide) h' i hi
  rw [Nat.mul_one (2 ^ 95)] at h3
  exact bit_of_land h3

def E0 (t : Nat × Nat × Nat × Nat) : Nat × Nat × Nat × Nat := (t.1 + t.2.1, t.2.1 + t.2.2.1, t.2.2.1 + t.2.2.2, t.2.2.2 + 1)
def MRG : Nat := 1099511627776
def run (r w : Nat) (σ : Int) (k : Nat) : Int → Int → Int → Int → Bool := Nat.rec (motive := fun _ => Int → Int → Int → Int → Bool) (fun _ _ _ _ => true)
  (fun _ ih v a b c => (okV r v.toNat w && okD r (σ * a + (2^95 - 1099511627776 : Nat) * r).toNat) && ih (v + a) (a + b) (b + c) c) k
/-- What is known of an angle: its value is far from integers, and it goes up (or down). -/
def Fine (w : Nat) (σ : Int) (T : Nat → Rat) (n : Nat) (e0 e1 : Nat) : Prop :=
  (∃ f : Nat, ((f * 2 ^ 56 + w : Nat) : Rat) ≤ G86 * T n + (e0 : Rat) ∧ G86 * T n ≤ (((f + 1) * 2 ^ 56 : Nat) : Rat) - (w : Rat) + (e0 : Rat)) ∧ (MRG : Rat) ≤ (σ : Rat) * (G86 * d1 T n) + (e1 : Rat)
structure Near (T : Nat → Rat) (n : Nat) (v a b c : Int) (e : Nat × Nat × Nat × Nat) : Prop where
  n0 : Wit (G86 * T n - (v : Rat)) e.1
  n1 : Wit (G86 * d1 T n - (a : Rat)) e.2.1
  n2 : Wit (G86 * d2 T n - (b : Rat)) e.2.2.1
  n3 : Wit (G86 * d3 T n - (c : Rat)) e.2.2.2
theorem Near.step {N : Nat} {T : Nat → Rat} {j : Jet} (hj : Has N T j) (h4 : G86 * j.b4 ≤ 1) {n : Nat} (hn : n + 4 ≤ N) {v a b c : Int} {e : Nat × Nat × Nat × Nat} (h : Near T n v a b c e) : Near T (n + 1) (v + a) (a + b) (b + c) c (E0 e) := by
  obtain ⟨q0, q1, q2, q3⟩ := h
  have q4 := (hj.h4 n hn).scale (c := G86) (by unfold G86; grind)
  have e1 : T (n + 1) = T n + d1 T n := by unfold d1; grind
  refine ⟨?_, ?_, ?_, ?_⟩
  · rw [e1]; unfold Wit E0 at *; push_cast; generalize G86 = g at *; constructor <;> grind
  · rw [d1_step]; unfold Wit E0 at *; push_cast; generalize G86 = g at *; constructor <;> grind
  · rw [d2_step]; unfold Wit E0 at *; push_cast; generalize G86 = g at *; constructor <;> grind
  · rw [d3_step]; unfold Wit E0 at *; push_cast; generalize G86 = g at *; constructor <;> grind
def allE (B : Nat) : Nat → Nat × Nat × Nat × Nat → Bool
  | 0, _ => true
  | k + 1, e => Nat.ble e.1 B && Nat.ble e.2.1 B && allE B k (E0 e)
theorem run_ok {N m w B : Nat} {σ : Int} {T : Nat → Rat} {j : Jet} (n0 : Nat → Nat) (hσ : σ = 1 ∨ σ = -1) (hj : Has N T j) (h4 : G86 * j.b4 ≤ 1) (hw : 2 * w ≤ 2 ^ 56) (hB : B ≤ 2 ^ 40)
    (hT0 : ∀ n, 1 ≤ n → n ≤ N → (2 ^ 41 : Nat) ≤ G86 * T n ∧ G86 * T n ≤ (2 ^ 90 : Nat)) (hT1 : ∀ n, n + 1 ≤ N → Wit (G86 * d1 T n) (2 ^ 90 : Nat)) :
    ∀ (k t : Nat) (v a b c : Nat → Int) (e : Nat × Nat × Nat × Nat), 1 ≤ t → (∀ i, i < m → n0 i + t + k + 4 ≤ N) → allE B k e = true → (∀ i, i < m → Near T (n0 i + t) (v i) (a i) (b i) (c i) e) →
      run (pkN (fun _ => 1) m) w σ k (pk v m) (pk a m) (pk b m) (pk c m) = true → ∀ s, s < k → ∀ i, i < m → Fine w σ T (n0 i + (t + s)) B B
  | 0, _, _, _, _, _, _, _, _, _, _, _, s, hs, _, _ => by omega
  | k + 1, t, v, a, b, c, e, ht, hN, hE, hnear, hrun, s, hs, i, hi => by
    have hE' := hE
    simp only [allE, Bool.and_eq_true, Nat.ble_eq] at hE'
    obtain ⟨⟨hE0, hE1⟩, hE2⟩ := hE'
    have hrun' : ((okV (pkN (fun _ => 1) m) (pk v m).toNat w && okD (pkN (fun _ => 1) m) (σ * pk a m + (2^95 - 1099511627776 : Nat) * (pkN (fun _ => 1) m : Nat)).toNat) && run (pkN (fun _ => 1) m) w σ k (pk v m + pk a m) (pk a m + pk b m) (pk b m + pk c m) (pk c m)) = true := hrun
    simp only [Bool.and_eq_true] at hrun'
    obtain ⟨⟨hV, hD⟩, hR⟩ := hrun'
    rw [pk_add, pk_add, pk_add] at hR
    rcases Nat.eq_zero_or_pos s with hs0 | hs0
    · subst hs0
      rw [Nat.add_zero]
      have hni := hN i hi
      have vb : ∀ i, i < m → 0 ≤ v i ∧ v i < 2 ^ 95 := by
        intro i hi
        have h1 := (hnear i hi).n0
        obtain ⟨h2, h3⟩ := hT0 (n0 i + t) (by omega) (by have := hN i hi; omega)
        have h4 : ((e.1 : Nat) : Rat) ≤ ((2 ^ 40 : Nat) : Rat) := by exact_mod_cast (show e.1 ≤ 2 ^ 40 by omega)
        unfold Wit at h1
        have l1 : ((0 : Int) : Rat) ≤ (v i : Rat) := by
          generalize G86 * T (n0 i + t) = g at *
          have c1 : ((2 ^ 41 : Nat) : Rat) = 2199023255552 := rfl
          have c2 : ((2 ^ 40 : Nat) : Rat) = 1099511627776 := rfl
          rw [c1] at h2; rw [c2] at h4
          have : ((0 : Int) : Rat) = 0 := rfl
          grind
        have l2 : (v i : Rat) < ((2 ^ 95 : Int) : Rat) := by
          generalize G86 * T (n0 i + t) = g at *
          have c1 : ((2 ^ 90 : Nat) : Rat) = 1237940039285380274899124224 := rfl
          have c2 : ((2 ^ 40 : Nat) : Rat) = 1099511627776 := rfl
          have c3 : ((2 ^ 95 : Int) : Rat) = 39614081257132168796771975168 := rfl
          rw [c1] at h3; rw [c2] at h4; rw [c3]
          grind
        exact ⟨by exact_mod_cast l1, by exact_mod_cast l2⟩
      have ab : ∀ i, i < m → -(2 ^ 91) ≤ a i ∧ a i ≤ 2 ^ 91 := by
        intro i hi
        have h1 := (hnear i hi).n1
        have h2 := hT1 (n0 i + t) (by have := hN i hi; omega)
        have h4 : ((e.2.1 : Nat) : Rat) ≤ ((2 ^ 40 : Nat) : Rat) := by exact_mod_cast (show e.2.1 ≤ 2 ^ 40 by omega)
        unfold Wit at h1 h2
        have c1 : ((2 ^ 90 : Nat) : Rat) = 1237940039285380274899124224 := rfl
        have c2 : ((2 ^ 40 : Nat) : Rat) = 1099511627776 := rfl
        have c3 : ((2 ^ 91 : Int) : Rat) = 2475880078570760549798248448 := rfl
        have c4 : ((-(2 ^ 91) : Int) : Rat) = -2475880078570760549798248448 := rfl
        generalize G86 * d1 T (n0 i + t) = g at *
        rw [c1] at h2; rw [c2] at h4
        have l1 : ((-(2 ^ 91) : Int) : Rat) ≤ (a i : Rat) := by rw [c4]; grind
        have l2 : (a i : Rat) ≤ ((2 ^ 91 : Int) : Rat) := by rw [c3]; grind
        exact ⟨by exact_mod_cast l1, by exact_mod_cast l2⟩
      have hn := hnear i hi
      rw [pk_toNat v m (fun i hi => (vb i hi).1)] at hV
      have hVl := okV_lane (fun i hi => by have := vb i hi; omega) hw hV i hi
      have eD : σ * pk a m + (2^95 - 1099511627776 : Nat) * (pkN (fun _ => 1) m : Nat) = pk (fun i => σ * a i + (2^95 - 1099511627776 : Nat) * 1) m := by
        rw [show ((pkN (fun _ => 1) m : Nat) : Int) = pk (fun _ => 1) m from (pk_nat (fun _ => 1) m).symm, pk_mul, pk_mul, pk_add]
      rw [eD, pk_toNat _ m (fun i hi => by have := ab i hi; rcases hσ with rfl | rfl <;> omega)] at hD
      have hDl := okD_lane (fun i hi => by have := ab i hi; rcases hσ with rfl | rfl <;> omega) hD i hi
      have hvi := vb i hi
      have hai := ab i hi
      refine ⟨⟨((v i).toNat + w) / 2 ^ 56, ?_⟩, ?_⟩
      · have hdm := Nat.div_add_mod ((v i).toNat + w) (2 ^ 56)
        have hml := Nat.mod_lt ((v i).toNat + w) (show 0 < 2 ^ 56 by decide)
        generalize ((v i).toNat + w) / 2 ^ 56 = f at *
        have u1 : f * 2 ^ 56 + w ≤ (v i).toNat := by omega
        have u2 : (v i).toNat + w ≤ (f + 1) * 2 ^ 56 := by omega
        have u3 : (((v i).toNat : Nat) : Rat) = (v i : Rat) := by
          have : (((v i).toNat : Nat) : Int) = v i := by omega
          exact_mod_cast this
        have r1 : ((f * 2 ^ 56 + w : Nat) : Rat) ≤ (((v i).toNat : Nat) : Rat) := by exact_mod_cast u1
        have r2 : (((v i).toNat + w : Nat) : Rat) ≤ (((f + 1) * 2 ^ 56 : Nat) : Rat) := by exact_mod_cast u2
        have r2' : (((v i).toNat : Nat) : Rat) + (w : Rat) ≤ (((f + 1) * 2 ^ 56 : Nat) : Rat) := by
          have : (((v i).toNat + w : Nat) : Rat) = (((v i).toNat : Nat) : Rat) + (w : Rat) := by push_cast; rfl
          rw [← this]; exact r2
        rw [u3] at r1 r2'
        have hb : ((e.1 : Nat) : Rat) ≤ (B : Rat) := by exact_mod_cast hE0
        have h1 := hn.n0
        unfold Wit at h1
        generalize G86 * T (n0 i + t) = g at *
        generalize ((f * 2 ^ 56 + w : Nat) : Rat) = x1 at *
        generalize (((f + 1) * 2 ^ 56 : Nat) : Rat) = x2 at *
        constructor <;> grind
      · have h1 := hn.n1
        have hb : ((e.2.1 : Nat) : Rat) ≤ (B : Rat) := by exact_mod_cast hE1
        unfold Wit at h1
        generalize G86 * d1 T (n0 i + t) = g at *
        have hm : (MRG : Int) ≤ σ * a i := by unfold MRG; omega
        have hmr : ((MRG : Int) : Rat) ≤ ((σ * a i : Int) : Rat) := by exact_mod_cast hm
        have hmr' : (MRG : Rat) ≤ (σ : Rat) * (a i : Rat) := by
          have e1 : ((σ * a i : Int) : Rat) = (σ : Rat) * (a i : Rat) := by push_cast; rfl
          rw [← e1]; exact hmr
        rcases hσ with rfl | rfl
        · have : ((1 : Int) : Rat) = 1 := rfl
          rw [this] at hmr' ⊢; grind
        · have : ((-1 : Int) : Rat) = -1 := rfl
          rw [this] at hmr' ⊢; grind
    · have := run_ok n0 hσ hj h4 hw hB hT0 hT1 k (t + 1) _ _ _ _ (E0 e) (by omega) (fun i hi => by have := hN i hi; omega) hE2
        (fun i hi => by rw [← Nat.add_assoc]; exact (hnear i hi).step hj h4 (by have := hN i hi; omega)) hR (s - 1) (by omega) i hi
      rwa [show t + 1 + (s - 1) = t + s by omega] at this
end SM
end Go.Proofs.YtfilgpifiboccaaGreat
