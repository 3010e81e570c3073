/-
  The examples of chapter 26; HaversineMeets, HaversineParts answer true.
-/
import Derived.Test.YtcoopclgfimahaaLa
import Derived.Test.YtcoopclgfimahaaHc
import Derived.Test.YtcoopclgfimahaaHh
namespace Go.Proofs.Ytcoopclgfimahaa
open Ev

open SM TB TA
theorem ahav_at {x y p q : Int} (h1 : 0 ≤ x) (h2 : x ≤ y) (h3 : y ≤ 1073741824) (hp : IsAsin (2 * x - 1073741824) p) (hq : IsAsin (1073741824 - 2 * y) q) : ahavR x y = (5400000 + p, 5400000 - q, 0) := by
  have e1 : asn (1073741824 - 2 * y) = q := asn_eq (by omega) hq
  have e2 : asn (2 * x - 1073741824) = p := asn_eq (by omega) hp
  unfold ahavR acosR asinR
  rw [val_mk (a := x) (b := y) (by omega) h2 (by omega)]
  simp only [Bool.true_eq_false, if_false]
  have m1 : max x 0 = x := by omega
  have m2 : min y 1073741824 = y := by omega
  rw [m1, m2, if_pos h2, val_mk (a := 1073741824 - 2 * y) (b := 1073741824 - 2 * x) (by omega) (by omega) (by omega)]
  simp only [Bool.true_eq_false, if_false]
  have m3 : max (1073741824 - 2 * y) (-1073741824) = 1073741824 - 2 * y := by omega
  have m4 : min (1073741824 - 2 * x) 1073741824 = 1073741824 - 2 * x := by omega
  rw [m3, m4, if_pos (show 1073741824 - 2 * y ≤ 1073741824 - 2 * x by omega), e1, show -(1073741824 - 2 * x) = 2 * x - 1073741824 by omega, e2]
  simp
theorem zen_a : zenM 0 0 0 0 3600000 3600000 = (3600000, 3600000, 0) := by
  have h : ahavR 268435456 268435456 = (3600000, 3600000, 0) := by
    rw [ahav_at (p := -1800000) (q := 1800000) (by omega) (by omega) (by omega) ⟨by omega, by omega, by decide +kernel, .inr (by decide +kernel)⟩ ⟨by omega, by omega, by decide +kernel, .inr (by decide +kernel)⟩]
    rfl
  have e1 : cosV 0 0 0 0 = (1073741824, 1073741824) := by decide +kernel
  have e2 : cosC 0 0 0 0 0 = 0 := by decide +kernel
  have e3 : havR 3600000 3600000 = (268435456, 268435456, 0) := by decide +kernel
  have e4 : betV 0 0 0 0 = (0, 0) := by decide +kernel
  have e5 : betC 0 0 0 0 0 = 0 := by decide +kernel
  have e6 : mulR 1073741824 1073741824 268435456 268435456 = (268435456, 268435456, 0) := by decide +kernel
  have e7 : addR 0 0 268435456 268435456 = (268435456, 268435456, 0) := by decide +kernel
  have e8 : triB 0 0 0 0 3600000 3600000 = true := by decide +kernel
  unfold zenM
  simp only [lt, hnumV, hnumC, harcW, harcC, e1, e2, e3, e4, e5, e6, e7, e8, h, keep0]
  rfl
theorem top_a : topM 0 0 0 0 3600000 3600000 3600000 3600000 = (5399999, 5400001, 0) := by
  rw [top_eq (by decide +kernel) (by decide +kernel) (by omega) (by omega) (by omega)]
  have e1 : numN 0 0 0 0 3600000 3600000 = (464943848, 464943849, 0) := by decide +kernel
  have e2 : cosV 0 0 (5400000 - 3600000) (5400000 - 3600000) = (929887696, 929887697) := by decide +kernel
  have e3 : divR 464943848 464943849 929887696 929887697 = (536870911, 536870914, 0) := by decide +kernel
  rw [e1, e2]
  unfold topS
  simp only [e3]
  rw [ahav_at (x := 536870911) (y := 536870914) (p := -1) (q := -1) (by omega) (by omega) (by omega) ⟨by omega, by omega, by decide +kernel, .inr (by decide +kernel)⟩ ⟨by omega, by omega, by decide +kernel, .inr (by decide +kernel)⟩]
  rfl
theorem sol_a : hsolM 0 0 0 0 3600000 3600000 = (1800000, 1800000, 16199999, 16200001, 0) := by
  have e1 : aziM 0 0 0 0 3600000 3600000 3600000 3600000 = (16199999, 16200001, 0) := by
    rw [azi_eq (by decide +kernel) (by omega) (by omega) (by omega), top_a]
    decide +kernel
  have e2 : lessV 3600000 3600000 = (1800000, 1800000) := by decide +kernel
  unfold hsolM
  simp only [lt, zen_a, e1, e2]
  rfl
theorem zen_b : zenM 1800000 1800000 1800000 1800000 0 0 = (0, 0, 0) := by
  have h : ahavR 0 0 = (0, 0, 0) := by
    rw [ahav_at (p := -5400000) (q := 5400000) (by omega) (by omega) (by omega) ⟨by omega, by omega, by decide +kernel, .inr (by decide +kernel)⟩ ⟨by omega, by omega, by decide +kernel, .inl rfl⟩]
    rfl
  have e1 : mulR (cosV 1800000 1800000 1800000 1800000).1 (cosV 1800000 1800000 1800000 1800000).2 0 0 = (0, 0, 0) := by decide +kernel
  have e2 : cosC 0 1800000 1800000 1800000 1800000 = 0 := by decide +kernel
  have e3 : havR 0 0 = (0, 0, 0) := by decide +kernel
  have e4 : betV 1800000 1800000 1800000 1800000 = (0, 0) := by decide +kernel
  have e5 : betC 0 1800000 1800000 1800000 1800000 = 0 := by decide +kernel
  have e7 : addR 0 0 0 0 = (0, 0, 0) := by decide +kernel
  have e8 : triB 1800000 1800000 1800000 1800000 0 0 = true := by decide +kernel
  unfold zenM
  simp only [lt, hnumV, hnumC, harcW, harcC, e1, e2, e3, e4, e5, e7, e8, h, keep0]
  rfl
theorem azi_b : (aziM 1800000 1800000 1800000 1800000 0 0 0 0).2.2 = 21 := by
  have e1 : topM 1800000 1800000 1800000 1800000 0 0 0 0 = (0, 0, 21) := by
    rw [top_eq (by decide +kernel) (by decide +kernel) (by omega) (by omega) (by omega)]
    have e2 : cosV 1800000 1800000 (5400000 - 0) (5400000 - 0) = (0, 0) := by decide +kernel
    rw [e2]
    unfold topS
    simp
  rw [azi_eq (by decide +kernel) (by omega) (by omega) (by omega), e1]
  simp
/-- A number of an arc, picked by a remainder. -/
def pk (a b u : Int) : Int := IntKind.i64.wrap (a + Int.tmod (IntKind.i64.wrap u) (IntKind.i64.wrap (IntKind.i64.wrap (b - a) + 1)))
theorem pk_ok {a b u : Int} (h1 : -1099511627776 ≤ a) (h2 : a ≤ b) (h3 : b ≤ 1099511627776) (h4 : 0 ≤ u) (h5 : u ≤ 4294967295) : (IntKind.i64.wrap (IntKind.i64.wrap (b - a) + 1) == 0) = false ∧ a ≤ pk a b u ∧ pk a b u ≤ b := by
  unfold pk
  rw [i64w (x := b - a) (by omega), i64w (x := b - a + 1) (by omega), i64w (x := u) (by omega)]
  have m0 := Int.tmod_nonneg (b - a + 1) h4
  have m1 := Int.tmod_lt_of_pos u (show 0 < b - a + 1 by omega)
  rw [i64w (by omega)]
  exact ⟨beq_eq_false_iff_ne.2 (by omega), by omega, by omega⟩
theorem hsol_no {a b c d e f : Int} (h : triB a b c d e f = false) : zenM a b c d e f = (0, 0, 1) ∧ hsolM a b c d e f = (0, 0, 0, 0, 1) ∧ csolM a b c d e f = (0, 0, 0, 0, 1) := by
  have z : zenM a b c d e f = (0, 0, 1) := by
    unfold zenM
    rw [h]
    rfl
  refine ⟨z, ?_, ?_⟩
  · unfold hsolM
    rw [z]
    rfl
  · unfold csolM cAltM
    rw [h]
    rfl
theorem zpart_ok {a b c d e f a' b' c' d' e' f' : Int} (h : triB a b c d e f = true) (ha : a ≤ a' ∧ a' ≤ b' ∧ b' ≤ b) (hc : c ≤ c' ∧ c' ≤ d' ∧ d' ≤ d) (he : e ≤ e' ∧ e' ≤ f' ∧ f' ≤ f) :
    triB a' b' c' d' e' f' = true ∧ (zenM a b c d e f).1 ≤ (zenM a' b' c' d' e' f').1 ∧ (zenM a' b' c' d' e' f').2.1 ≤ (zenM a b c d e f).2.1 := by
  obtain ⟨h1, h2, h3⟩ := tri_bd h
  have l1 := lat_bd h1
  have l2 := lat_bd h2
  have l3 := aval_bd h3
  have h' : triB a' b' c' d' e' f' = true := tri_mk (lat_mk (by omega) (by omega) (by omega)) (lat_mk (by omega) (by omega) (by omega)) (avalid_mk (by omega) (by omega) (by omega))
  have l1' := lat_bd (tri_bd h').1
  have l2' := lat_bd (tri_bd h').2.1
  have k := bet_ok (a := a) (b := b) (c := c) (d := d) (by omega) (by omega) (by omega) (by omega) (by omega) (by omega)
  have k' := bet_ok (a := a') (b := b') (c := c') (d := d') (by omega) (by omega) (by omega) (by omega) (by omega) (by omega)
  have q := cosV_ok l1.1 l2.1
  have q' := cosV_ok l1'.1 l2'.1
  have z := zsum_ok h
  have gh := hav_grow (a := a' - d') (b := b' - c') (c := a - d) (d := b - c) (avalid_mk (by omega) (by omega) (by omega)) (by omega) (by omega) (by omega)
  have gc1 := cos_grow l1.1 ha.1 ha.2.1 ha.2.2
  have gc2 := cos_grow l2.1 hc.1 hc.2.1 hc.2.2
  have gl := hav_grow h3 he.1 he.2.1 he.2.2
  have o := mul_ones (cos_one l1.1) (cos_one l2.1)
  have gm := mul_grow o.2.2.2 gc1.2.2.1 gc1.2.2.2.1 gc1.2.2.2.2 gc2.2.2.1 gc2.2.2.2.1 gc2.2.2.2.2
  have o2 := mul_ones o (hav_one h3)
  have gp := mul_grow o2.2.2.2 gm.2.2.1 gm.2.2.2.1 gm.2.2.2.2 gl.2.2.1 gl.2.2.2.1 gl.2.2.2.2
  have hv := hav_one (a := a - d) (b := b - c) (avalid_mk (by omega) (by omega) (by omega))
  have gs := add_grow (by rw [(add_ones hv o2).1]) gh.2.2.1 gh.2.2.2.1 gh.2.2.2.2 gp.2.2.1 gp.2.2.2.1 gp.2.2.2.2
  have ez : ∀ {a b c d e f : Int}, betV a b c d = ((havR (a - d) (b - c)).1, (havR (a - d) (b - c)).2.1) → cosV a b c d = ((mulR (cosR a b).1 (cosR a b).2.1 (cosR c d).1 (cosR c d).2.1).1, (mulR (cosR a b).1 (cosR a b).2.1 (cosR c d).1 (cosR c d).2.1).2.1) → addR (havR (a - d) (b - c)).1 (havR (a - d) (b - c)).2.1 (mulR (mulR (cosR a b).1 (cosR a b).2.1 (cosR c d).1 (cosR c d).2.1).1 (mulR (cosR a b).1 (cosR a b).2.1 (cosR c d).1 (cosR c d).2.1).2.1 (havR e f).1 (havR e f).2.1).1 (mulR (mulR (cosR a b).1 (cosR a b).2.1 (cosR c d).1 (cosR c d).2.1).1 (mulR (cosR a b).1 (cosR a b).2.1 (cosR c d).1 (cosR c d).2.1).2.1 (havR e f).1 (havR e f).2.1).2.1 = zsum a b c d e f := fun p r => by
    unfold zsum zprod
    rw [p, r]
  rw [ez k.1 q.1, ez k'.1 q'.1] at gs
  have s1 := haversine_ok h
  have s2 := haversine_ok h'
  have ok : ∀ {a b c d e f : Int}, triB a b c d e f = true → (ahavR (zsum a b c d e f).1 (zsum a b c d e f).2.1).2.2 = 0 := fun {a b c d e f} h => by
    obtain ⟨x0, y0, t0⟩ := tri_point h
    obtain ⟨h', z', s'⟩ := sees (a : Rat) (c : Rat) (e : Rat)
    have v := zsum_v h x0 y0 t0
    obtain ⟨w1, w2, w3, w4, w5, w6, w7, w8, w9, w10, w11, w12, w13, w14, w15, w16, w17⟩ := lvH
    have e1b := e1_bd
    have eb := e0_bd
    obtain ⟨h0, h1, z0, z1, k1, k2, k3⟩ := s'
    exact (ahav_v v (t := 5 * TB.e0) (by rw [show 1 - 2 * ((1 - upT (a : Rat) (c : Rat) (e : Rat)) / 2) = upT (a : Rat) (c : Rat) (e : Rat) by grind]; exact k1) h0 h1 (by grind) (by grind) w1 w4 w3).1
  have g := ahav_grow z.2.2 (ok h') gs.2.2.1 gs.2.2.2.2
  rw [zen_ok h (ok h), zen_ok h' (ok h')]
  exact ⟨h', g.2.2.1, g.2.2.2.2⟩
noncomputable def book_awake26_gives : Book := [(42, eT (fun a b c d e f => solV (hsolM a b c d e f))), (44, eT (fun a b c d e f => arcV (zenM a b c d e f))), (82, eTP (fun a b c d e f u v => arcV (aziM a b c d e f u v)))]
theorem book_awake26_gives_ok : BookOk Try.prog book_awake26_gives := (bookOk_cons (eT_ok hsolM_gives) (bookOk_cons (eT_ok zenM_gives) (bookOk_cons (eTP_ok aziM_gives) bookOk_nil)))
theorem awake26_gives_tree  : evF Try.prog Es Cs book_awake26_gives 20 6 41 ([].map AV.v) [] [] last =
  lt (hsolM 0 0 0 0 3600000 3600000) fun x1 =>
  lt (zenM 1800000 1800000 1800000 1800000 0 0) fun x2 =>
  lt (aziM 1800000 1800000 1800000 1800000 0 0 x2.1 x2.2.1) fun x3 =>
  cond (x1.2.2.2.2 == 0)
  (cond ((x1.1 == 1800000) && ((x1.2.1 == 1800000) && ((x1.2.2.1 == 16199999) && ((x1.2.2.2.1 == 16200001) && true))))
   (cond (x2.2.2 == 0)
    (cond ((x2.1 == 0) && ((x2.2.1 == 0) && true))
     (some (.v (.bool (x3.2.2 == 21))))
     (some (.v (.bool false))))
    (some (.v (.bool false))))
   (some (.v (.bool false))))
  (some (.v (.bool false))) := by kernel_rfl
theorem awake26_gives  : Gives Try.prog 41 [] (.bool (true)) := by
  refine evF_gives (E := Es) mixed Es_ok Cs_ok book_awake26_gives_ok (lim := 20) (d := 6) (nm := []) ?_
  rw [awake26_gives_tree]
  simp only [lt, sol_a, zen_b]
  have := azi_b
  rw [this]
  rfl
noncomputable def book_hme_any : Book := [(37, eT (fun a b c d e f => solV (csolM a b c d e f))), (39, ePP (fun a b c d => boolV (agreeR a b c d))), (40, ePP (fun a b c d => arcV (ameetR a b c d))), (41, e0 (.bool (true))), (42, eT (fun a b c d e f => solV (hsolM a b c d e f))), (43, eT (fun a b c d e f => .bool (triB a b c d e f)))]
theorem book_hme_any_ok : BookOk Try.prog book_hme_any := (bookOk_cons (eT_ok csolM_gives) (bookOk_cons (ePP_ok agreeR_gives) (bookOk_cons (ePP_ok ameetR_gives) (bookOk_cons (e0_ok awake26_gives) (bookOk_cons (eT_ok hsolM_gives) (bookOk_cons (eT_ok triB_gives) bookOk_nil))))))
theorem hme_any_tree (a b c d e f : Int) : evF Try.prog Es Cs book_hme_any 20 6 12 ([.agg ⟨[.int .i64 a, .int .i64 b, .int .i64 c, .int .i64 d, .int .i64 e, .int .i64 f]⟩].map AV.v) [] [] last =
  cond (!(true))
  (some (.v (.bool false)))
  (lt (hsolM a b c d e f) fun x1 =>
   lt (csolM a b c d e f) fun x2 =>
   cond (x1.2.2.2.2 != 0)
   (cond (x1.2.2.2.2 == x2.2.2.2.2)
    (some (.v (.bool (!(triB a b c d e f)))))
    (some (.v (.bool false))))
   (cond (x2.2.2.2.2 != 0)
    (cond (x1.2.2.2.2 == x2.2.2.2.2)
     (some (.v (.bool (!(triB a b c d e f)))))
     (some (.v (.bool false))))
    (lt (ameetR x1.1 x1.2.1 x2.1 x2.2.1) fun x3 =>
     lt (agreeR x1.2.2.1 x1.2.2.2.1 x2.2.2.1 x2.2.2.2.1) fun x4 =>
     cond (x3.2.2 == 0)
     (cond (x4.2 == 0)
      (some (.v (.bool x4.1)))
      (some (.v (.bool false))))
     (some (.v (.bool false)))))) := by kernel_rfl
theorem hme_any (a b c d e f : Int) : Gives Try.prog 12 [.agg ⟨[.int .i64 a, .int .i64 b, .int .i64 c, .int .i64 d, .int .i64 e, .int .i64 f]⟩] (.bool (allT a b c d e f)) := by
  refine evF_gives (E := Es) mixed Es_ok Cs_ok book_hme_any_ok (lim := 20) (d := 6) (nm := []) ?_
  rw [hme_any_tree a b c d e f]
  simp only [lt, Bool.not_true, cond_false]
  unfold allT
  cases ht : triB a b c d e f with
  | false =>
    have n := hsol_no ht
    rw [n.2.1, n.2.2]
    rfl
  | true =>
    obtain ⟨H, Z, ec, _, hc⟩ := cosine_hold ht
    obtain ⟨em, hm, _⟩ := haversine_ok ht
    obtain ⟨p1, p2, p3⟩ := tri_point ht
    have m := hm.meets hc p1 p2 p3 p1 p2 p3
    rw [em, ec]
    dsimp only
    rw [m.2.2.1, m.2.2.2]
    rfl
noncomputable def book_hpa_any : Book := [(18, ePP (fun a b c d => .bool (insideB a b c d))), (37, eT (fun a b c d e f => solV (csolM a b c d e f))), (39, ePP (fun a b c d => boolV (agreeR a b c d))), (40, ePP (fun a b c d => arcV (ameetR a b c d))), (41, e0 (.bool (true))), (42, eT (fun a b c d e f => solV (hsolM a b c d e f))), (44, eT (fun a b c d e f => arcV (zenM a b c d e f)))]
theorem book_hpa_any_ok : BookOk Try.prog book_hpa_any := (bookOk_cons (ePP_ok insideB_gives) (bookOk_cons (eT_ok csolM_gives) (bookOk_cons (ePP_ok agreeR_gives) (bookOk_cons (ePP_ok ameetR_gives) (bookOk_cons (e0_ok awake26_gives) (bookOk_cons (eT_ok hsolM_gives) (bookOk_cons (eT_ok zenM_gives) bookOk_nil)))))))
theorem hpa_any_tree (a b c d e f u v w : Int) : evF Try.prog Es Cs book_hpa_any 20 6 13 ([.agg ⟨[.int .i64 a, .int .i64 b, .int .i64 c, .int .i64 d, .int .i64 e, .int .i64 f]⟩, .int .u32 u, .int .u32 v, .int .u32 w].map AV.v) [] [] last =
  cond (!(true))
  (some (.v (.bool false)))
  (lt (zenM a b c d e f) fun x1 =>
   lt (hsolM a b c d e f) fun x2 =>
   cond (x1.2.2 != 0)
   (some (.v (.bool (x1.2.2 == x2.2.2.2.2))))
   (cond (IntKind.i64.wrap ((IntKind.i64.wrap (b - a)) + 1) == 0)
    (none)
    (cond (IntKind.i64.wrap ((IntKind.i64.wrap (d - c)) + 1) == 0)
     (none)
     (cond (IntKind.i64.wrap ((IntKind.i64.wrap (f - e)) + 1) == 0)
      (none)
      (lt (zenM (IntKind.i64.wrap (a + (Int.tmod (IntKind.i64.wrap (u)) (IntKind.i64.wrap ((IntKind.i64.wrap (b - a)) + 1))))) (IntKind.i64.wrap (a + (Int.tmod (IntKind.i64.wrap (u)) (IntKind.i64.wrap ((IntKind.i64.wrap (b - a)) + 1))))) (IntKind.i64.wrap (c + (Int.tmod (IntKind.i64.wrap (v)) (IntKind.i64.wrap ((IntKind.i64.wrap (d - c)) + 1))))) (IntKind.i64.wrap (c + (Int.tmod (IntKind.i64.wrap (v)) (IntKind.i64.wrap ((IntKind.i64.wrap (d - c)) + 1))))) (IntKind.i64.wrap (e + (Int.tmod (IntKind.i64.wrap (w)) (IntKind.i64.wrap ((IntKind.i64.wrap (f - e)) + 1))))) (IntKind.i64.wrap (e + (Int.tmod (IntKind.i64.wrap (w)) (IntKind.i64.wrap ((IntKind.i64.wrap (f - e)) + 1)))))) fun x3 =>
       lt (hsolM (IntKind.i64.wrap (a + (Int.tmod (IntKind.i64.wrap (u)) (IntKind.i64.wrap ((IntKind.i64.wrap (b - a)) + 1))))) (IntKind.i64.wrap (a + (Int.tmod (IntKind.i64.wrap (u)) (IntKind.i64.wrap ((IntKind.i64.wrap (b - a)) + 1))))) (IntKind.i64.wrap (c + (Int.tmod (IntKind.i64.wrap (v)) (IntKind.i64.wrap ((IntKind.i64.wrap (d - c)) + 1))))) (IntKind.i64.wrap (c + (Int.tmod (IntKind.i64.wrap (v)) (IntKind.i64.wrap ((IntKind.i64.wrap (d - c)) + 1))))) (IntKind.i64.wrap (e + (Int.tmod (IntKind.i64.wrap (w)) (IntKind.i64.wrap ((IntKind.i64.wrap (f - e)) + 1))))) (IntKind.i64.wrap (e + (Int.tmod (IntKind.i64.wrap (w)) (IntKind.i64.wrap ((IntKind.i64.wrap (f - e)) + 1)))))) fun x4 =>
       cond (x2.2.2.2.2 != 0)
       (some (.v (.bool false)))
       (cond (x3.2.2 != 0)
        (some (.v (.bool false)))
        (cond (x4.2.2.2.2 != 0)
         (some (.v (.bool false)))
         (cond (!(insideB x3.1 x3.2.1 x1.1 x1.2.1))
          (some (.v (.bool false)))
          (cond (!(insideB x4.1 x4.2.1 x2.1 x2.2.1))
           (some (.v (.bool false)))
           (cond (x2.1 != IntKind.i64.wrap (5400000 - x1.2.1))
            (some (.v (.bool false)))
            (cond (x2.2.1 != IntKind.i64.wrap (5400000 - x1.1))
             (some (.v (.bool false)))
             (lt (csolM (IntKind.i64.wrap (a + (Int.tmod (IntKind.i64.wrap (u)) (IntKind.i64.wrap ((IntKind.i64.wrap (b - a)) + 1))))) (IntKind.i64.wrap (a + (Int.tmod (IntKind.i64.wrap (u)) (IntKind.i64.wrap ((IntKind.i64.wrap (b - a)) + 1))))) (IntKind.i64.wrap (c + (Int.tmod (IntKind.i64.wrap (v)) (IntKind.i64.wrap ((IntKind.i64.wrap (d - c)) + 1))))) (IntKind.i64.wrap (c + (Int.tmod (IntKind.i64.wrap (v)) (IntKind.i64.wrap ((IntKind.i64.wrap (d - c)) + 1))))) (IntKind.i64.wrap (e + (Int.tmod (IntKind.i64.wrap (w)) (IntKind.i64.wrap ((IntKind.i64.wrap (f - e)) + 1))))) (IntKind.i64.wrap (e + (Int.tmod (IntKind.i64.wrap (w)) (IntKind.i64.wrap ((IntKind.i64.wrap (f - e)) + 1)))))) fun x5 =>
              lt (agreeR x5.2.2.1 x5.2.2.2.1 x2.2.2.1 x2.2.2.2.1) fun x6 =>
              lt (ameetR x5.1 x5.2.1 x2.1 x2.2.1) fun x7 =>
              cond (x5.2.2.2.2 == 0)
              (cond (x6.2 == 0)
               (cond x6.1
                (some (.v (.bool (x7.2.2 == 0))))
                (some (.v (.bool false))))
               (some (.v (.bool false))))
              (some (.v (.bool false))))))))))))))) := by kernel_rfl
theorem hpa_any (a b c d e f u v w : Int) (hu : 0 ≤ u ∧ u ≤ 4294967295) (hv : 0 ≤ v ∧ v ≤ 4294967295) (hw : 0 ≤ w ∧ w ≤ 4294967295) : Gives Try.prog 13 [.agg ⟨[.int .i64 a, .int .i64 b, .int .i64 c, .int .i64 d, .int .i64 e, .int .i64 f]⟩, .int .u32 u, .int .u32 v, .int .u32 w] (.bool true) := by
  refine evF_gives (E := Es) mixed Es_ok Cs_ok book_hpa_any_ok (lim := 20) (d := 6) (nm := []) ?_
  rw [hpa_any_tree]
  simp only [lt, Bool.not_true, cond_false]
  cases ht : triB a b c d e f with
  | false =>
    have n := hsol_no ht
    rw [n.1, n.2.1]
    rfl
  | true =>
    obtain ⟨h1, h2, h3⟩ := tri_bd ht
    have l1 := lat_bd h1
    have l2 := lat_bd h2
    have l3 := aval_bd h3
    have k1 := pk_ok (a := a) (b := b) (u := u) (by omega) (by omega) (by omega) (by omega) (by omega)
    have k3 := pk_ok (a := c) (b := d) (u := v) (by omega) (by omega) (by omega) (by omega) (by omega)
    have k5 := pk_ok (a := e) (b := f) (u := w) (by omega) (by omega) (by omega) (by omega) (by omega)
    have d1 : IntKind.i64.wrap (a + Int.tmod (IntKind.i64.wrap u) (IntKind.i64.wrap (IntKind.i64.wrap (b - a) + 1))) = pk a b u := rfl
    have d3 : IntKind.i64.wrap (c + Int.tmod (IntKind.i64.wrap v) (IntKind.i64.wrap (IntKind.i64.wrap (d - c) + 1))) = pk c d v := rfl
    have d5 : IntKind.i64.wrap (e + Int.tmod (IntKind.i64.wrap w) (IntKind.i64.wrap (IntKind.i64.wrap (f - e) + 1))) = pk e f w := rfl
    rw [d1, d3, d5, k1.1, k3.1, k5.1]
    have b1 := k1.2
    have b3 := k3.2
    have b5 := k5.2
    clear d1 d3 d5 k1 k3 k5
    generalize pk e f w = t' at *
    generalize pk c d v = y' at *
    generalize pk a b u = x' at *
    obtain ⟨h', p1, p2⟩ := zpart_ok (a' := x') (b' := x') (c' := y') (d' := y') (e' := t') (f' := t') ht ⟨by omega, by omega, by omega⟩ ⟨by omega, by omega, by omega⟩ ⟨by omega, by omega, by omega⟩
    obtain ⟨e1, m1, q1, q2, q3, q4⟩ := haversine_ok ht
    obtain ⟨e2, m2, r1, r2, r3, r4⟩ := haversine_ok h'
    obtain ⟨H, Z, ec, _, hc⟩ := cosine_hold h'
    obtain ⟨t1, t2, t3⟩ := tri_point h'
    have m := hc.meets m1 t1 t2 t3 (Hs.at (by omega) (by omega)) (Hs.at (by omega) (by omega)) (Hs.at (by omega) (by omega))
    rw [e1, e2, ec]
    dsimp only
    have z : ((0 : Int) != 0) = false := rfl
    have i1 : insideB (zenM x' x' y' y' t' t').1 (zenM x' x' y' y' t' t').2.1 (zenM a b c d e f).1 (zenM a b c d e f).2.1 = true := by
      unfold insideB
      rw [avalid_mk (by omega) r3 (by omega), avalid_mk (by omega) q3 (by omega), decide_eq_true p1, decide_eq_true p2]
      rfl
    have i2 : insideB (hH x' x' y' y' t' t').1 (hH x' x' y' y' t' t').2.1 (hH a b c d e f).1 (hH a b c d e f).2.1 = true := by
      unfold insideB hH
      dsimp only
      rw [avalid_mk (by omega) (by omega) (by omega), avalid_mk (by omega) (by omega) (by omega), decide_eq_true (by omega), decide_eq_true (by omega)]
      rfl
    have i3 : ((hH a b c d e f).1 != IntKind.i64.wrap (5400000 - (zenM a b c d e f).2.1)) = false := by
      rw [i64w (by omega)]
      exact bne_eq_false_iff_eq.2 rfl
    have i4 : ((hH a b c d e f).2.1 != IntKind.i64.wrap (5400000 - (zenM a b c d e f).1)) = false := by
      rw [i64w (by omega)]
      exact bne_eq_false_iff_eq.2 rfl
    rw [q1, r1, i1, i2, i3, i4, m.2.2.1, m.2.2.2]
    rfl
end Go.Proofs.Ytcoopclgfimahaa
