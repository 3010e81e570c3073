/-
  Operations without error, and what their results hold; the true altitude and azimuth of a spherical triangle. No program here. Altitudes and azimuths that are seen, and what holds them. No program here.
-/
import Derived.Test.YtfilgpifiboccaaGreatTb5
import Derived.Test.YtfilgpifiboccaaGreatFc
namespace Go.Proofs.YtfilgpifiboccaaGreat
open SM Ev TB TA
theorem keep0 (e : Int) : keepE 0 e = e := rfl
theorem lat_bd {a b : Int} (h : latB a b = true) : avalidB a b = true ∧ -5400000 ≤ a ∧ a ≤ b ∧ b ≤ 5400000 := by
  unfold latB at h
  simp only [Bool.and_eq_true, decide_eq_true_eq] at h
  have := aval_bd h.1
  exact ⟨h.1, by omega, by omega, by omega⟩
theorem tri_bd {a b c d e f : Int} (h : triB a b c d e f = true) : latB a b = true ∧ latB c d = true ∧ avalidB e f = true := by
  unfold triB at h
  simp only [Bool.and_eq_true] at h
  exact ⟨h.1, h.2.1, h.2.2⟩
theorem lat_mk {a b : Int} (h1 : -5400000 ≤ a) (h2 : a ≤ b) (h3 : b ≤ 5400000) : latB a b = true := by
  unfold latB
  rw [avalid_mk (by omega) h2 (by omega)]
  simp
  omega
theorem tri_mk {a b c d e f : Int} (h1 : latB a b = true) (h2 : latB c d = true) (h3 : avalidB e f = true) : triB a b c d e f = true := by
  unfold triB
  rw [h1, h2, h3]
  rfl
theorem asub_ok {a b c d : Int} (h1 : -100000000 ≤ a) (h2 : a ≤ b) (h3 : b ≤ 100000000) (h4 : -100000000 ≤ c) (h5 : c ≤ d) (h6 : d ≤ 100000000) :
    asubR a b c d = (a - d, b - c, 0) := by
  unfold asubR
  rw [if_pos ⟨avalid_mk (by omega) h2 (by omega), avalid_mk (by omega) h5 (by omega)⟩]
  unfold resR fitsB
  simp
  omega
/-- An enclosure of numbers from -1 to 1, without error. -/
def OneR (r : Int × Int × Int) : Prop := -1073741824 ≤ r.1 ∧ r.1 ≤ r.2.1 ∧ r.2.1 ≤ 1073741824 ∧ r.2.2 = 0
theorem OneR.val {r : Int × Int × Int} (h : OneR r) : validB r.1 r.2.1 = true := val_mk (by have := h.1; omega) h.2.1 (by have := h.2.2.1; omega)
theorem sin_one {a b : Int} (h : avalidB a b = true) : OneR (sinR a b) := (one_bd h).1
theorem cos_one {a b : Int} (h : avalidB a b = true) : OneR (cosR a b) := (one_bd h).2.1
theorem mul_ones {r s : Int × Int × Int} (h : OneR r) (k : OneR s) : OneR (mulR r.1 r.2.1 s.1 s.2.1) := by
  have m := mul_one h.1 h.2.1 h.2.2.1 k.1 k.2.1 k.2.2.1
  exact ⟨m.2.1, m.2.2.1, m.2.2.2, m.1⟩
theorem neg_one {r : Int × Int × Int} (h : OneR r) : negR r.1 r.2.1 = (-r.2.1, -r.1, 0) ∧ OneR (negR r.1 r.2.1) := by
  have e : negR r.1 r.2.1 = (-r.2.1, -r.1, 0) := by unfold negR; rw [if_pos h.val]
  refine ⟨e, ?_⟩
  rw [e]
  obtain ⟨h1, h2, h3, h4⟩ := h
  exact ⟨by dsimp only; omega, by dsimp only; omega, by dsimp only; omega, rfl⟩
theorem add_ones {r s : Int × Int × Int} (h : OneR r) (k : OneR s) : addR r.1 r.2.1 s.1 s.2.1 = (r.1 + s.1, r.2.1 + s.2.1, 0) ∧ validB (r.1 + s.1) (r.2.1 + s.2.1) = true := by
  have hv := h.val
  have kv := k.val
  obtain ⟨h1, h2, h3, h4⟩ := h
  obtain ⟨k1, k2, k3, k4⟩ := k
  have v : validB (r.1 + s.1) (r.2.1 + s.2.1) = true := val_mk (by omega) (by omega) (by omega)
  refine ⟨?_, v⟩
  unfold addR
  rw [if_pos (both_mk hv kv)]
  exact fit_mk v
theorem sub_ones {r s : Int × Int × Int} (h : OneR r) (k : OneR s) : subR r.1 r.2.1 s.1 s.2.1 = (r.1 - s.2.1, r.2.1 - s.1, 0) ∧ validB (r.1 - s.2.1) (r.2.1 - s.1) = true := by
  have hv := h.val
  have kv := k.val
  obtain ⟨h1, h2, h3, h4⟩ := h
  obtain ⟨k1, k2, k3, k4⟩ := k
  have v : validB (r.1 - s.2.1) (r.2.1 - s.1) = true := val_mk (by omega) (by omega) (by omega)
  refine ⟨?_, v⟩
  unfold subR
  rw [if_pos (both_mk hv kv)]
  exact fit_mk v
/-- An arc of altitudes, without error. -/
def LatR (r : Int × Int × Int) : Prop := -5400000 ≤ r.1 ∧ r.1 ≤ r.2.1 ∧ r.2.1 ≤ 5400000 ∧ r.2.2 = 0
theorem LatR.val {r : Int × Int × Int} (h : LatR r) : avalidB r.1 r.2.1 = true := avalid_mk (by have := h.1; omega) h.2.1 (by have := h.2.2.1; omega)
theorem asin_lat {r : Int × Int × Int} (hv : validB r.1 r.2.1 = true) (e : (asinR r.1 r.2.1).2.2 = 0) : LatR (asinR r.1 r.2.1) := by
  have b := asinR_bd r.1 r.2.1
  obtain ⟨_, _, w1, w2, w3⟩ := asin_grow (c := r.1) (d := r.2.1) hv e (Int.le_refl _) (Int.le_refl _)
  exact ⟨by omega, w2, by omega, e⟩
/-- An arc of directions, without error. -/
def DirR (r : Int × Int × Int) : Prop := 0 ≤ r.1 ∧ r.1 ≤ r.2.1 ∧ r.1 < 21600000 ∧ r.2.1 ≤ r.1 + 21600000 ∧ r.2.2 = 0
theorem bea_dir {a b c d : Int} (h : validB a b = true) (k : validB c d = true) : DirR (bearR a b c d) := by
  obtain ⟨p, q, e, h1, h2, h3, h4⟩ := bear_fit h k
  rw [e]
  exact ⟨h1, h3, h2, h4, rfl⟩
theorem DirR.val {r : Int × Int × Int} (h : DirR r) : avalidB r.1 r.2.1 = true := by
  obtain ⟨h1, h2, h3, h4, h5⟩ := h
  exact avalid_mk (by omega) h2 (by omega)
/-! ### What results hold -/
/-- A result without error that holds a number. -/
def Vl (r : Int × Int × Int) (e : Rat) (X : Rat) : Prop := r.2.2 = 0 ∧ validB r.1 r.2.1 = true ∧ Hs e r.1 r.2.1 (1073741824 * X)
theorem Vl.wide {r : Int × Int × Int} {e f X : Rat} (h : Vl r e X) (k : e ≤ f) : Vl r f X := ⟨h.1, h.2.1, h.2.2.wide k (Int.le_refl _) (Int.le_refl _)⟩
theorem Vl.near {r : Int × Int × Int} {e t X Y : Rat} (h : Vl r e X) (k : Cl t Y X) : Vl r (e + 1073741824 * t) Y := by
  refine ⟨h.1, h.2.1, h.2.2.near ?_⟩
  unfold Cl at *
  constructor <;> grind
theorem sin_v {a b : Int} {d q : Rat} (hv : avalidB a b = true) (hd : 0 ≤ d) (hd1 : d ≤ 1) (h : Hs d a b q) : Vl (sinR a b) (2000 * d + 5 * e1) (si q) :=
  ⟨(sin_one hv).2.2.2, (sin_one hv).val, (sin_B hv hd hd1 h).wide (by have := e1_bd; grind) (Int.le_refl _) (Int.le_refl _)⟩
theorem cos_v {a b : Int} {d q : Rat} (hv : avalidB a b = true) (hd : 0 ≤ d) (hd1 : d ≤ 1) (h : Hs d a b q) : Vl (cosR a b) (2000 * d + 5 * e1) (co q) :=
  ⟨(cos_one hv).2.2.2, (cos_one hv).val, cos_B hv hd hd1 h⟩
theorem mul_v {r s : Int × Int × Int} {e X Y : Rat} (h : OneR r) (k : OneR s) (he : 0 ≤ e) (he1 : e ≤ 1 / 4) (h' : Vl r e X) (k' : Vl s e Y) : Vl (mulR r.1 r.2.1 s.1 s.2.1) (3 * e) (X * Y) := by
  have m := mul_ones h k
  have b := mul_B he he1 h'.2.2 k'.2.2 h.2.1 k.2.1 h.1 h.2.2.1 k.1 k.2.2.1
  rw [show 1073741824 * X * (1073741824 * Y) / 1073741824 = 1073741824 * (X * Y) by grind] at b
  exact ⟨m.2.2.2, m.val, b⟩
theorem add_v {r s : Int × Int × Int} {e f X Y : Rat} (h : OneR r) (k : OneR s) (h' : Vl r e X) (k' : Vl s f Y) : Vl (addR r.1 r.2.1 s.1 s.2.1) (e + f) (X + Y) := by
  obtain ⟨ev, v⟩ := add_ones h k
  have b := h'.2.2.add k'.2.2
  rw [ev]
  exact ⟨rfl, v, by rw [show 1073741824 * (X + Y) = 1073741824 * X + 1073741824 * Y by grind]; exact b⟩
theorem sub_v {r s : Int × Int × Int} {e f X Y : Rat} (h : OneR r) (k : OneR s) (h' : Vl r e X) (k' : Vl s f Y) : Vl (subR r.1 r.2.1 s.1 s.2.1) (e + f) (X - Y) := by
  obtain ⟨ev, v⟩ := sub_ones h k
  have b := h'.2.2.sub k'.2.2
  rw [ev]
  exact ⟨rfl, v, by rw [show 1073741824 * (X - Y) = 1073741824 * X - 1073741824 * Y by grind]; exact b⟩
theorem neg_v {r : Int × Int × Int} {e X : Rat} (h : OneR r) (h' : Vl r e X) : Vl (negR r.1 r.2.1) e (-X) := by
  have n := neg_one h
  rw [n.1]
  rw [n.1] at n
  refine ⟨rfl, n.2.val, ?_⟩
  rw [show 1073741824 * -X = -(1073741824 * X) by grind]
  exact h'.2.2.neg
theorem asin_v {r : Int × Int × Int} {e t d q X : Rat} (h : Vl r e X) (hq : Cl t (si q) X) (q0 : -5400000 ≤ q) (q1 : q ≤ 5400000) (he : 0 ≤ e) (ht : 0 ≤ t) (hd0 : 0 ≤ d) (hs : e + 1073741824 * t ≤ 1 / 4) (hd : 100000 * (e + 1073741824 * t + 4 * e1) ≤ d * d) :
    LatR (asinR r.1 r.2.1) ∧ Hs d (asinR r.1 r.2.1).1 (asinR r.1 r.2.1).2.1 q := by
  have k := (h.near hq).2.2
  have z : 1073741824 * si q = Sq q := rfl
  rw [z] at k
  have ok := asin_has h.2.1 (show 0 ≤ e + 1073741824 * t by grind) hs k
  exact ⟨asin_lat h.2.1 ok, asin_B h.2.1 ok q0 q1 (by grind) k hd0 hd⟩
theorem bear_v {r s : Int × Int × Int} {e t q ρ X Y : Rat} (h : Vl r e Y) (k : Vl s e X) (hy : Cl t (ρ * si q) Y) (hx : Cl t (ρ * co q) X) (hr0 : 0 ≤ ρ) (hr1 : ρ ≤ 4) (he : 0 ≤ e) (ht : 0 ≤ t) (hs : e + 1073741824 * t ≤ 1 / 2 ^ 91) :
    DirR (bearR r.1 r.2.1 s.1 s.2.1) ∧ Dr (2 ^ 64 * (e + 1073741824 * t + 2 * e1)) (bearR r.1 r.2.1 s.1 s.2.1).1 (bearR r.1 r.2.1 s.1 s.2.1).2.1 q := by
  have h1 := (h.near hy).2.2
  have k1 := (k.near hx).2.2
  rw [show 1073741824 * (ρ * si q) = 1073741824 * ρ * si q by grind] at h1
  rw [show 1073741824 * (ρ * co q) = 1073741824 * ρ * co q by grind] at k1
  exact ⟨bea_dir h.2.1 k.2.1, (bear_B (ρ := 1073741824 * ρ) h.2.1 k.2.1 (by grind) (by grind) (by grind) hs h1 k1).2⟩
theorem TB.Dr.wide {d d' : Rat} {lo hi : Int} {q : Rat} (h : Dr d lo hi q) (hd : d ≤ d') : Dr d' lo hi q := by
  obtain ⟨m, h⟩ := h
  exact ⟨m, h.wide hd (Int.le_refl _) (Int.le_refl _)⟩
/-! ### The truth -/
namespace TB
/-- The vector of a body: to the zenith, to the north, and to the east. -/
def upT (x y t : Rat) : Rat := si x * si y + co x * co y * co t
def noT (x y t : Rat) : Rat := si y * co x - co y * co t * si x
def eaT (y t : Rat) : Rat := -(co y * si t)
theorem sphere (x y t : Rat) : Cl (e0 / 2) (upT x y t * upT x y t + (noT x y t * noT x y t + eaT y t * eaT y t)) 1 := by
  have ee : e0 = 1048576 * u0 := rfl
  have u := u0_bd
  have a := unit x
  have b := unit y
  have c := unit t
  have by2 := bdq2 y
  have bt2 := bdq2 t
  have i : upT x y t * upT x y t + noT x y t * noT x y t = (co x * co x + si x * si x) * (si y * si y + co y * co t * (co y * co t)) := by unfold upT noT; grind
  have m0 := mul_abs by2.1.1 by2.1.2 bt2.1.1 bt2.1.2
  have m1 := mul_abs by2.2.1 by2.2.2 by2.2.1 by2.2.2
  have m2 := mul_abs m0.1 m0.2 m0.1 m0.2
  have m5 := mul_abs by2.1.1 by2.1.2 by2.1.1 by2.1.2
  generalize hA : co x * co x + si x * si x = A at *
  have j : eaT y t * eaT y t = co y * co y * (co t * co t + si t * si t) - co y * co t * (co y * co t) := by unfold eaT; grind
  generalize hC : co t * co t + si t * si t = C at *
  have p1 := mul_abs (a := A - 1) (b := si y * si y + co y * co t * (co y * co t)) (A := 8192 * u0) (B := 32) a.1 a.2 (by grind) (by grind)
  have p2 := mul_abs (a := C - 1) (b := co y * co y) (A := 8192 * u0) (B := 4) c.1 c.2 (by grind) (by grind)
  unfold Cl at *
  have s : upT x y t * upT x y t + (noT x y t * noT x y t + eaT y t * eaT y t) - 1 = (A - 1) * (si y * si y + co y * co t * (co y * co t)) + (C - 1) * (co y * co y) + (co y * co y + si y * si y - 1) := by
    rw [show upT x y t * upT x y t + (noT x y t * noT x y t + eaT y t * eaT y t) - 1 = (upT x y t * upT x y t + noT x y t * noT x y t) + eaT y t * eaT y t - 1 by grind, i, j]
    grind
  rw [s]
  generalize (A - 1) * (si y * si y + co y * co t * (co y * co t)) = v1 at *
  generalize (C - 1) * (co y * co y) = v2 at *
  generalize co y * co y + si y * si y = v3 at *
  constructor <;> grind
def eT : Rat := pw 606
def eF : Rat := pw 1245
def eG : Rat := pw 618
def eC : Rat := pw 612
def cC : Rat := ((2 ^ 612 : Nat) : Rat)
theorem e_tab : e0 ≤ eF ∧ eF ≤ 1 / 1000 ∧ eF ≤ eG ∧ 100 * eF ≤ eG * eG ∧ 40 * e0 * (cC * cC) ≤ 2 * eF ∧ 8 * eG ≤ eT ∧ 32 * eF ≤ eT ∧ 0 < eC ∧ eC * cC = 1 ∧ 16 * eC ≤ eT ∧ 40 * e0 ≤ eC * eC ∧ 100 * e0 ≤ eT ∧ 0 ≤ cC ∧ e0 ≤ eC := by decide +kernel
/-- A vector of a given length has a direction. -/
theorem aim {ρ X Y : Rat} (h0 : -e0 ≤ ρ) (h1 : ρ ≤ 2) (h : Cl (40 * e0) (X * X + Y * Y) (ρ * ρ)) : ∃ z : Rat, -10800000 ≤ z ∧ z ≤ 16200000 ∧ Cl eT (ρ * co z) X ∧ Cl eT (ρ * si z) Y := by
  obtain ⟨t1, t2, t3, t4, t5, t6, t7, t8, t9, t10, t11, t12, t13, t14⟩ := e_tab
  have eb := e0_bd
  rcases (Rat.le_total : eC ≤ ρ ∨ ρ ≤ eC) with c | c
  · obtain ⟨i, hi⟩ : ∃ i : Rat, i * ρ = 1 := ⟨ρ⁻¹, Rat.inv_mul_cancel ρ (by grind)⟩
    have i0 : 0 ≤ i := by
      rcases (Rat.le_total : 0 ≤ i ∨ i ≤ 0) with q | q
      · exact q
      · have := Rat.mul_nonneg (show 0 ≤ -i by grind) (show 0 ≤ ρ by grind)
        grind
    have i1 : i ≤ cC := by
      have m := Rat.mul_nonneg i0 (show 0 ≤ ρ - eC by grind)
      have m2 : i * eC ≤ 1 := by grind
      have m3 := Rat.mul_nonneg (show (0 : Rat) ≤ cC by exact t13) (show 0 ≤ 1 - i * eC by grind)
      have m4 : cC * (1 - i * eC) = cC - i * (eC * cC) := by grind
      rw [t9] at m4
      clear t5
      grind
    have hu : Cl (2 * eF) (i * X * (i * X) + i * Y * (i * Y)) 1 := by
      have m := mul_abs (a := i) (b := i) (A := cC) (B := cC) (by grind) i1 (by grind) i1
      have m2 := mul_abs (a := X * X + Y * Y - ρ * ρ) (b := i * i) (A := 40 * e0) (B := cC * cC) h.1 h.2 m.1 m.2
      have e : i * X * (i * X) + i * Y * (i * Y) - 1 = (X * X + Y * Y - ρ * ρ) * (i * i) := by
        have : i * i * (ρ * ρ) = 1 := by
          rw [show i * i * (ρ * ρ) = (i * ρ) * (i * ρ) by grind, hi]
          grind
        grind
      unfold Cl
      rw [e]
      generalize (X * X + Y * Y - ρ * ρ) * (i * i) = v at *
      generalize cC * cC = w at *
      constructor <;> grind
    obtain ⟨z, z0, z1, zc, zs⟩ := dir t1 t2 t3 t4 hu
    refine ⟨z, z0, z1, ?_, ?_⟩
    · have m := mul_abs (a := ρ) (b := co z - i * X) (A := 2) (B := 2 * eG) (by grind) h1 zc.1 zc.2
      have e : ρ * co z - X = ρ * (co z - i * X) := by
        have : ρ * (i * X) = X := by rw [show ρ * (i * X) = (i * ρ) * X by grind, hi]; grind
        grind
      unfold Cl
      rw [e]
      generalize ρ * (co z - i * X) = v at *
      constructor <;> grind
    · have m := mul_abs (a := ρ) (b := si z - i * Y) (A := 2) (B := 8 * eF) (by grind) h1 zs.1 zs.2
      have e : ρ * si z - Y = ρ * (si z - i * Y) := by
        have : ρ * (i * Y) = Y := by rw [show ρ * (i * Y) = (i * ρ) * Y by grind, hi]; grind
        grind
      unfold Cl
      rw [e]
      generalize ρ * (si z - i * Y) = v at *
      constructor <;> grind
  · have sX := sq_nn X
    have sY := sq_nn Y
    have r2 : ρ * ρ ≤ eC * eC := by
      have := Rat.mul_nonneg (show 0 ≤ eC - ρ by grind) (show 0 ≤ eC + ρ by grind)
      grind
    unfold Cl at h
    have bX := sqrt_small (z := X) (f := 2 * eC) (e := 4 * (eC * eC)) (by grind) (by grind) (by grind)
    have bY := sqrt_small (z := Y) (f := 2 * eC) (e := 4 * (eC * eC)) (by grind) (by grind) (by grind)
    refine ⟨0, by grind, by grind, ?_, ?_⟩
    · rw [co_0]
      unfold Cl
      constructor <;> grind
    · rw [si_0]
      unfold Cl
      constructor <;> grind
/-- A unit vector has an altitude and an azimuth. -/
theorem tri3 {A N E : Rat} (s : Cl (e0 / 2) (A * A + (N * N + E * E)) 1) : ∃ h z : Rat, -5400000 ≤ h ∧ h ≤ 5400000 ∧ -10800000 ≤ z ∧ z ≤ 16200000 ∧ Cl (5 * e0) (si h) A ∧ Cl eT (co h * co z) N ∧ Cl eT (co h * si z) E := by
  have eb := e0_bd
  have ee : e0 = 1048576 * u0 := rfl
  have u := u0_bd
  have n2 := sq_nn N
  have e2 := sq_nn E
  have hy := one_bd' (z := A) (e := e0 / 2) (by grind) (by unfold Cl at s; grind)
  obtain ⟨y', y0, y1, yc⟩ : ∃ y' : Rat, -1 ≤ y' ∧ y' ≤ 1 ∧ Cl (e0 / 2) y' A := by
    rcases (Rat.le_total : A ≤ 1 ∨ 1 ≤ A) with h | h
    · rcases (Rat.le_total : -1 ≤ A ∨ A ≤ -1) with k | k
      · exact ⟨A, k, h, Cl.refl _ (by grind)⟩
      · exact ⟨-1, by grind, by grind, by unfold Cl; constructor <;> grind⟩
    · exact ⟨1, by grind, by grind, by unfold Cl; constructor <;> grind⟩
  obtain ⟨h, h0, h1, hs⟩ := inv y0 y1
  have qy : Cl (5 * e0) (si h) A := (hs.trans yc).wide (by grind)
  have c := co_ge (q := h) (d := 0) h0 h1 (by grind) (by grind) (by grind)
  rw [show tb * 0 / 2 - e0 = -e0 by grind] at c
  have b := bdq2 h
  have un := unit h
  have m := Cl.mul 2 3 qy qy b.2 (by constructor <;> grind)
  have d : Cl (40 * e0) (N * N + E * E) (co h * co h) := by
    unfold Cl at *
    generalize co h * co h = z1 at *
    generalize si h * si h = z2 at *
    generalize A * A = z3 at *
    generalize N * N = z4 at *
    generalize E * E = z5 at *
    constructor <;> grind
  obtain ⟨z, z0, z1, zc, zs⟩ := aim c b.1.2 d
  exact ⟨h, z, h0, h1, z0, z1, qy, zc, zs⟩
/-- **The true altitude and azimuth.** -/
theorem truth (x y t : Rat) : ∃ h z : Rat, -5400000 ≤ h ∧ h ≤ 5400000 ∧ -10800000 ≤ z ∧ z ≤ 16200000 ∧ Cl (5 * e0) (si h) (upT x y t) ∧ Cl eT (co h * co z) (noT x y t) ∧ Cl eT (co h * si z) (eaT y t) := tri3 (sphere x y t)
end TB
end Go.Proofs.YtfilgpifiboccaaGreat
namespace Go.Proofs.YtfilgpifiboccaaGreat
open SM TB TA
open Ev (lt keepE)
/-- An altitude and an azimuth are those of a latitude, a declination, and an hour angle. -/
def Sees (x y t h z : Rat) : Prop := -5400000 ≤ h ∧ h ≤ 5400000 ∧ -10800000 ≤ z ∧ z ≤ 16200000 ∧ Cl (5 * e0) (si h) (upT x y t) ∧ Cl eT (co h * co z) (noT x y t) ∧ Cl eT (co h * si z) (eaT y t)
/-- How near results are to the truth. -/
def dS : Rat := pw 230
theorem lv : 0 < e1 ∧ 0 < eT ∧ 0 < dS ∧ 1000 * e1 + 1073741824 * (100 * eT) ≤ 1 / 2 ^ 91 ∧ 100000 * (1000 * e1 + 1073741824 * (100 * eT) + 4 * e1) ≤ pw 275 * pw 275 ∧ 0 ≤ pw 275 ∧ pw 275 ≤ dS ∧ 2 ^ 64 * (1000 * e1 + 1073741824 * (100 * eT) + 2 * e1) ≤ dS ∧ 1000 * e1 + 1073741824 * (100 * eT) ≤ 1 / 4 ∧ 5 * e0 ≤ eT ∧ 1000 * e1 ≤ 1 / 4 := by decide +kernel
theorem TB.Hs.at {a b x : Int} (h1 : a ≤ x) (h2 : x ≤ b) : Hs 0 a b (x : Rat) := Hs.int (by grind) h1 h2
/-- Sines and cosines at angles of arcs. -/
theorem sin_at {a b : Int} {x : Rat} (hv : avalidB a b = true) (h : Hs 0 a b x) : Vl (sinR a b) (5 * e1) (si x) := (sin_v hv (by grind) (by grind) h).wide (by grind)
theorem cos_at {a b : Int} {x : Rat} (hv : avalidB a b = true) (h : Hs 0 a b x) : Vl (cosR a b) (5 * e1) (co x) := (cos_v hv (by grind) (by grind) h).wide (by grind)
/-- What a solution holds. -/
structure Hold (a b c d e f : Int) (H Z : Int × Int × Int) : Prop where
  lat : LatR H
  dir : DirR Z
  form : (Z.1 = 0 ∧ Z.2.1 = 21600000) ∨ Z.2.1 < Z.1 + 21600000
  up : ∀ x y t : Rat, Hs 0 a b x → Hs 0 c d y → Hs 0 e f t → ∀ h z : Rat, Sees x y t h z → Hs dS H.1 H.2.1 h
  az : ∀ x y t : Rat, Hs 0 a b x → Hs 0 c d y → Hs 0 e f t → ∀ h z : Rat, Sees x y t h z → Dr dS Z.1 Z.2.1 z
theorem sees (x y t : Rat) : ∃ h z, Sees x y t h z := truth x y t
theorem co_lat {h : Rat} (h0 : -5400000 ≤ h) (h1 : h ≤ 5400000) : -e0 ≤ co h ∧ co h ≤ 2 := by
  have c := co_ge (q := h) (d := 0) h0 h1 (by grind) (by grind) (by grind)
  rw [show tb * 0 / 2 - e0 = -e0 by grind] at c
  exact ⟨c, (bdq2 h).1.2⟩
/-- A direction's vector of a length that may be a hair below 0. -/
theorem len_pos {ρ z N E : Rat} (h0 : -e0 ≤ ρ) (h1 : ρ ≤ 2) (hn : Cl eT (ρ * co z) N) (he : Cl eT (ρ * si z) E) : ∃ r : Rat, 0 ≤ r ∧ r ≤ 2 ∧ Cl (2 * eT) (r * co z) N ∧ Cl (2 * eT) (r * si z) E := by
  have b := bdq2 z
  have w := lv.2.2.2.2.2.2.2.2.2.1
  have eb := e0_bd
  rcases (Rat.le_total : 0 ≤ ρ ∨ ρ ≤ 0) with c | c
  · exact ⟨ρ, c, h1, hn.wide (by grind), he.wide (by grind)⟩
  · refine ⟨0, by grind, by grind, ?_, ?_⟩
    · have m := mul_abs (a := ρ) (b := co z) (A := e0) (B := 2) h0 (by grind) b.1.1 b.1.2
      unfold Cl at *
      constructor <;> grind
    · have m := mul_abs (a := ρ) (b := si z) (A := e0) (B := 2) h0 (by grind) b.2.1 b.2.2
      unfold Cl at *
      constructor <;> grind
theorem up_v {r : Int × Int × Int} {x y t h z : Rat} (v : Vl r (1000 * e1) (upT x y t)) (s : Sees x y t h z) : LatR (asinR r.1 r.2.1) ∧ Hs dS (asinR r.1 r.2.1).1 (asinR r.1 r.2.1).2.1 h := by
  obtain ⟨w1, w2, w3, w4, w5, w6, w7, w8, w9, w10, w11⟩ := lv
  obtain ⟨h0, h1, z0, z1, k1, k2, k3⟩ := s
  have eb := e0_bd
  have k := asin_v v (k1.wide (f := 100 * eT) (by grind)) h0 h1 (by grind) (by grind) w6 w9 w5
  exact ⟨k.1, k.2.wide w7 (Int.le_refl _) (Int.le_refl _)⟩
theorem az_v {r s : Int × Int × Int} {x y t h z : Rat} (v : Vl r (1000 * e1) (eaT y t)) (w : Vl s (1000 * e1) (noT x y t)) (se : Sees x y t h z) : DirR (bearR r.1 r.2.1 s.1 s.2.1) ∧ Dr dS (bearR r.1 r.2.1 s.1 s.2.1).1 (bearR r.1 r.2.1 s.1 s.2.1).2.1 z := by
  obtain ⟨w1, w2, w3, w4, w5, w6, w7, w8, w9, w10, w11⟩ := lv
  obtain ⟨h0, h1, z0, z1, k1, k2, k3⟩ := se
  have cl := co_lat h0 h1
  obtain ⟨r', r0, r1, rn, re⟩ := len_pos cl.1 cl.2 k2 k3
  have k := bear_v v w (re.wide (f := 100 * eT) (by grind)) (rn.wide (f := 100 * eT) (by grind)) r0 (by grind) (by grind) (by grind) w4
  exact ⟨k.1, k.2.wide w8⟩
end Go.Proofs.YtfilgpifiboccaaGreat
