import Derived.Test.YtfilgpifiboccaaGreatT32
namespace Go.Proofs.YtfilgpifiboccaaGreat
open Go.RowKit
/-- A point, turned back by right angles. -/
def rot (x y : Int) : Nat → Int × Int
  | 0 => (x, y)
  | j + 1 => ((rot x y j).2, - (rot x y j).1)
/-- The quadrant of a point. -/
def qr (x y : Int) : Nat := if 0 < x ∧ 0 ≤ y then 0 else if 0 < y ∧ x ≤ 0 then 1 else if x < 0 ∧ y ≤ 0 then 2 else 3
theorem rot_bd (x y : Int) (hx : -2147483648 ≤ x ∧ x ≤ 2147483648) (hy : -2147483648 ≤ y ∧ y ≤ 2147483648) : ∀ j, (-2147483648 ≤ (rot x y j).1 ∧ (rot x y j).1 ≤ 2147483648) ∧ (-2147483648 ≤ (rot x y j).2 ∧ (rot x y j).2 ≤ 2147483648)
  | 0 => ⟨hx, hy⟩
  | j + 1 => by
    have := rot_bd x y hx hy j
    simp only [rot]
    omega
theorem qr_le (x y : Int) : qr x y ≤ 3 := by
  unfold qr
  split
  · omega
  · split
    · omega
    · split <;> omega
theorem qr_not (x y : Int) (j : Nat) (h : j < qr x y) : ¬ (0 < (rot x y j).1 ∧ 0 ≤ (rot x y j).2) := by
  unfold qr at h
  split at h
  · omega
  · split at h
    · obtain rfl : j = 0 := by omega
      simp only [rot]; omega
    · split at h
      · rcases (show j = 0 ∨ j = 1 by omega) with rfl | rfl <;> simp only [rot] <;> omega
      · rcases (show j = 0 ∨ j = 1 ∨ j = 2 by omega) with rfl | rfl | rfl <;> simp only [rot] <;> omega
theorem qr_at (x y : Int) (h : ¬ (x = 0 ∧ y = 0)) : 0 < (rot x y (qr x y)).1 ∧ 0 ≤ (rot x y (qr x y)).2 := by
  unfold qr
  split
  · simp only [rot]; omega
  · split
    · simp only [rot]; omega
    · split
      · simp only [rot]; omega
      · simp only [rot]; omega
/-- A search by halves. -/
def srch (f : Nat → Bool) : Nat → Nat → Nat → Nat
  | 0, low, _ => low
  | n + 1, low, high => if high - low ≤ 1 then low else if f ((low + high) / 2) then srch f n ((low + high) / 2) high else srch f n low ((low + high) / 2)
def low1 (x y : Int) : Nat := srch (reaB (rot x y (qr x y)).1.toNat (rot x y (qr x y)).2.toNat) 23 0 5400000
def angF (x y : Int) : Int := 5400000 * (qr x y : Int) + (low1 x y : Int)
def excF (x y : Int) : Bool := (low1 x y == 0 && (rot x y (qr x y)).2 == 0) || (low1 x y == 2700000 && (rot x y (qr x y)).1 == (rot x y (qr x y)).2)
theorem mul_bd {x v : Int} (hx : -2147483648 ≤ x ∧ x ≤ 2147483648) (hv : -2147483648 ≤ v ∧ v ≤ 2147483648) : -4611686018427387904 ≤ x * v ∧ x * v ≤ 4611686018427387904 := by
  have h1 := Int.mul_nonneg (show 0 ≤ 2147483648 - x by omega) (show 0 ≤ 2147483648 - v by omega)
  have h2 := Int.mul_nonneg (show 0 ≤ 2147483648 + x by omega) (show 0 ≤ 2147483648 + v by omega)
  have h3 := Int.mul_nonneg (show 0 ≤ 2147483648 - x by omega) (show 0 ≤ 2147483648 + v by omega)
  have h4 := Int.mul_nonneg (show 0 ≤ 2147483648 + x by omega) (show 0 ≤ 2147483648 - v by omega)
  rw [Int.sub_mul, Int.mul_sub, Int.mul_sub] at h1
  rw [Int.add_mul, Int.mul_add, Int.mul_add] at h2
  rw [Int.sub_mul, Int.mul_add, Int.mul_add] at h3
  rw [Int.add_mul, Int.mul_sub, Int.mul_sub] at h4
  generalize x * v = P at *
  omega
theorem before_any (x y u v : Int) (hx : -2147483648 ≤ x ∧ x ≤ 2147483648) (hy : -2147483648 ≤ y ∧ y ≤ 2147483648) (hu : -2147483648 ≤ u ∧ u ≤ 2147483648) (hv : -2147483648 ≤ v ∧ v ≤ 2147483648) (w : World) :
    Calls Tryz.prog 70 #[pairV x y, pairV u v] w (GPost (.bool (decide (y * u ≤ x * v))) w) := by
  have HB := Lib.hid (((Below.refl w.heap.size w).alloc (Nat.le_refl _) (.cells #[.int .i64 x, .int .i64 y] 108)).alloc (by simp) (.cells #[.int .i64 u, .int .i64 v] 108))
  have b1 := mul_bd hx hv
  have b2 := mul_bd hy hu
  have w1 : IntKind.i64.wrap (x * v) = x * v := IntWalk.i64_in _ (by omega)
  have w2 : IntKind.i64.wrap (y * u) = y * u := IntWalk.i64_in _ (by omega)
  unfold pairV
  go_enter Tryz.func70, Tryz.ntmps70
  go_wp2
  go_ret
  exact ⟨rfl, HB.out⟩
end Go.Proofs.YtfilgpifiboccaaGreat
namespace Go.Proofs.YtfilgpifiboccaaGreat
open Go.RowKit
theorem rot_meas (j : Int) (h0 : 0 ≤ j) (h : j ≤ 2) : (16200000 - loOf (.int .i64 (5400000 * j + 5400000))).toNat < (16200000 - loOf (.int .i64 (5400000 * j))).toNat := by
  simp only [loOf]
  omega
theorem meas_lo {L N H : Int} (h1 : L < N) (h2 : N < H) : (loOf (.int .i64 N) - loOf (.int .i64 L)).toNat < (loOf (.int .i64 H) - loOf (.int .i64 L)).toNat := by
  simp only [loOf]
  omega
theorem meas_hi {L N H : Int} (h1 : L < N) (h2 : N < H) : (loOf (.int .i64 H) - loOf (.int .i64 N)).toNat < (loOf (.int .i64 H) - loOf (.int .i64 L)).toNat := by
  simp only [loOf]
  omega
set_option maxRecDepth 100000 in
set_option maxHeartbeats 2000000 in
theorem angle_any (x y : Int) (hx : -2147483648 ≤ x ∧ x ≤ 2147483648) (hy : -2147483648 ≤ y ∧ y ≤ 2147483648) (h0 : ¬ (x = 0 ∧ y = 0)) (w : World) :
    Calls Tryz.prog 71 #[pairV x y] w (GPost (.tuple #[.int .i64 (angF x y), .bool (excF x y)]) w) := by
  obtain ⟨V, hV⟩ : ∃ V, V = Value.tuple #[.int .i64 (angF x y), .bool (excF x y)] := ⟨_, rfl⟩
  rw [← hV]
  unfold angF excF low1 at hV
  have hq := qr_le x y
  have hat := qr_at x y h0
  have hnot := Lib.hid (qr_not x y)
  have hbd := Lib.hid (rot_bd x y hx hy)
  have hbq := rot_bd x y hx hy (qr x y)
  have HX : (((rot x y (qr x y)).1.toNat : Nat) : Int) = (rot x y (qr x y)).1 := Int.toNat_of_nonneg (by omega)
  have HY : (((rot x y (qr x y)).2.toNat : Nat) : Int) = (rot x y (qr x y)).2 := Int.toNat_of_nonneg (by omega)
  have K1 := Lib.hid (show Pair 108 _ w.heap.size x y from heap_alloc_new w (.cells #[.int .i64 x, .int .i64 y] 108))
  have HB := Lib.hid ((Below.refl w.heap.size w).alloc (Nat.le_refl _) (.cells #[.int .i64 x, .int .i64 y] 108))
  have hR0 := Lib.hid (show (rot x y 0).1 = x ∧ (rot x y 0).2 = y from ⟨rfl, rfl⟩)
  have hRs := Lib.hid (show ∀ j, (rot x y (j + 1)).1 = (rot x y j).2 ∧ (rot x y (j + 1)).2 = - (rot x y j).1 from fun j => ⟨rfl, rfl⟩)
  generalize (rot x y (qr x y)).1.toNat = X at *
  generalize (rot x y (qr x y)).2.toNat = Y at *
  rw [← HX, ← HY] at hV hat hbq
  generalize qr x y = Q at *
  replace HX := Lib.hid HX
  replace HY := Lib.hid HY
  replace hV := Lib.hid hV
  clear hx hy h0
  unfold pairV
  go_enter Tryz.func71, Tryz.ntmps71
  go_wp2
  go_loopw [4] (fun t wr => ∃ j : Nat, j ≤ Q ∧ t = .int .i64 (5400000 * (j : Int)) ∧ Pair 108 wr w.heap.size (rot x y j).1 (rot x y j).2 ∧ Below w.heap.size w wr) (fun t _ => (16200000 - loOf t).toNat)
  case atStart => exact ⟨0, by omega, by simp, K1.out, HB.out⟩
  case round =>
    clear K1 HB
    obtain ⟨j, hj, rfl, k1, hb⟩ := hrel
    have hbj := hbd.out j
    have l1 := k1.lt
    obtain ⟨⟨a0, a1⟩, a2, a3⟩ := keep2 k1
    have HB := Lib.hid hb
    rcases Nat.lt_or_ge j Q with hlt | hge
    · have hn := hnot.out j hlt
      have hs := Lib.hid (hRs.out j)
      generalize (rot x y j).1 = a at *
      generalize (rot x y j).2 = b at *
      have K2 := Lib.hid (k1.write b (-a))
      have HB2 := Lib.hid ((hb.setCell (p := ⟨w.heap.size, 0, none⟩) (Nat.le_refl _) (.int .i64 b)).setCell (p := ⟨w.heap.size, 1, none⟩) (Nat.le_refl _) (.int .i64 (-a)))
      clear k1 hb
      replace hat := Lib.hid hat
      replace hbq := Lib.hid hbq
      obtain ⟨⟨_, _⟩, _, _⟩ := hbj
      have hj3 : (j : Int) ≤ 2 := by omega
      have hlt := Lib.hid hlt
      clear hq hj
      by_cases ha : 0 < a
      · have hb' : ¬ 0 ≤ b := fun h => hn ⟨ha, h⟩
        clear hn
        go_wp2
        go_roundw
        case rel => exact ⟨j + 1, hlt.out, by go_num, by rw [hs.out.1, hs.out.2]; exact K2.out, HB2.out⟩
        case measure => exact rot_meas j (by omega) hj3
      · clear hn
        go_wp2
        go_roundw
        case rel => exact ⟨j + 1, hlt.out, by go_num, by rw [hs.out.1, hs.out.2]; exact K2.out, HB2.out⟩
        case measure => exact rot_meas j (by omega) hj3
    · obtain rfl : j = Q := by omega
      have hx1 := HX.out
      have hy1 := HY.out
      generalize (rot x y j).1 = a at *
      generalize (rot x y j).2 = b at *
      obtain ⟨g1, g2⟩ := hat
      obtain ⟨⟨g3, g4⟩, g5, g6⟩ := hbq
      have ha0 : 0 < a := by omega
      have hb0 : 0 ≤ b := by omega
      have ha1 : a ≤ 2147483648 := by omega
      have hb1 : b ≤ 2147483648 := by omega
      have hXb : X ≤ 2147483648 := by omega
      have hYb : Y ≤ 2147483648 := by omega
      have hq3 : (j : Int) ≤ 3 := by omega
      have HRe : Hid (∀ k : Nat, k ≤ 5400000 → ∀ w, Calls Tryz.prog 114 #[pairV a b, .int .i64 (k : Int)] w (GPost (.bool (reaB X Y k)) w)) := Lib.hid (fun k hk w => by rw [← hx1, ← hy1]; exact reaches_any X Y k hXb hYb hk w)
      have K1 := Lib.hid k1
      have HXY := Lib.hid (And.intro hx1 hy1)
      clear hq hj hge HX HY hR0 hRs hnot hbd hbj k1 hb g1 g2 g3 g4 g5 g6
      have hV2 := hV.out
      rw [hx1, hy1] at hV2
      clear hV HXY hx1 hy1
      generalize hR : srch (reaB X Y) 23 0 5400000 = R at hV2
      replace hV2 := Lib.hid hV2
      have hR := Lib.hid hR
      go_wp2
      go_loopw [5, 6] (fun lo hi wr2 => ∃ n l h : Nat, lo = .int .i64 (l : Int) ∧ hi = .int .i64 (h : Int) ∧ l < h ∧ h ≤ 5400000 ∧ h - l ≤ 2 ^ n ∧ srch (reaB X Y) n l h = R ∧ Pair 108 wr2 w.heap.size a b ∧ Below w.heap.size w wr2) (fun lo hi _ => (loOf hi - loOf lo).toNat)
      case atStart => exact ⟨23, 0, 5400000, rfl, rfl, by omega, by omega, by omega, hR.out, K1.out, HB.out⟩
      case round =>
        clear hR K1 HB a0 a1 a2 a3 l1
        obtain ⟨n, l, h, rfl, rfl, hlh, hh, hn, hs, k1, hb⟩ := hrel
        have l1 := k1.lt
        obtain ⟨⟨a0, a1⟩, a2, a3⟩ := keep2 k1
        have K1 := Lib.hid k1
        have HB := Lib.hid hb
        have hn := Lib.hid hn
        have hs := Lib.hid hs
        clear k1 hb
        by_cases hc : h - l ≤ 1
        · have hRl : R = l := by
            have := hs.out
            cases n with
            | zero => exact this.symm
            | succ n => rw [srch, if_pos hc] at this; exact this.symm
          have hc2 : (h : Int) - (l : Int) ≤ 1 := by omega
          obtain ⟨L, hL⟩ : ∃ L : Int, L = (l : Int) := ⟨_, rfl⟩
          obtain ⟨H, hH⟩ : ∃ H : Int, H = (h : Int) := ⟨_, rfl⟩
          have i1 : 0 ≤ L := by omega
          have i3 : H - L ≤ 1 := by omega
          have i4 : H ≤ 5400000 := by omega
          have i5 : L < H := by omega
          rw [← hL, ← hH]
          replace hL := Lib.hid hL
          replace hH := Lib.hid hH
          have hRL := Lib.hid (show (R : Int) = L by have := hL.out; omega)
          clear hlh hh hc hc2 hn hs
          have wj : IntKind.i64.wrap (5400000 * (j : Int)) = 5400000 * (j : Int) := IntWalk.i64_in _ (by omega)
          have wl : IntKind.i64.wrap (5400000 * (j : Int) + L) = 5400000 * (j : Int) + L := IntWalk.i64_in _ (by omega)
          by_cases z1 : L = 0
          · by_cases z2 : b = 0
            · have hE : (R == 0 && b == 0 || R == 2700000 && a == b) = true := by (have : R = 0 := by (have := hRL.out; omega)); simp [this, z2]
              have HF := Lib.hid (show ∀ nq, GPost V w (.returned (.tuple #[.int .i64 (5400000 * (j : Int) + L), .bool true])) (wr.drewN nq) from fun nq => ⟨by rw [hV2.out, hE, hRl, hL.out], below_drewN HB.out nq⟩)
              clear hE hRl
              go_wp2
              go_quiet (fail)
              go_wp2
              refine bodyPost_ret (v := .tuple #[.int .i64 (5400000 * (j : Int) + L), .bool true]) (by simp [results, Tryz.results71, go_sem, z1, z2]) rfl (HF.out _)
            · have hE : (R == 0 && b == 0 || R == 2700000 && a == b) = false := by (have : R = 0 := by (have := hRL.out; omega)); simp [this, z2]
              have HF := Lib.hid (show ∀ nq, GPost V w (.returned (.tuple #[.int .i64 (5400000 * (j : Int) + L), .bool false])) (wr.drewN nq) from fun nq => ⟨by rw [hV2.out, hE, hRl, hL.out], below_drewN HB.out nq⟩)
              clear hE hRl
              go_wp2
              go_quiet (fail)
              go_wp2
              refine bodyPost_ret (v := .tuple #[.int .i64 (5400000 * (j : Int) + L), .bool false]) (by simp [results, Tryz.results71, go_sem, z1, z2]) rfl (HF.out _)
          · by_cases z2 : L = 2700000
            · by_cases z3 : a = b
              · have hE : (R == 0 && b == 0 || R == 2700000 && a == b) = true := by (have : R = 2700000 := by (have := hRL.out; omega)); simp [this, z3]
                have HF := Lib.hid (show ∀ nq, GPost V w (.returned (.tuple #[.int .i64 (5400000 * (j : Int) + L), .bool true])) (wr.drewN nq) from fun nq => ⟨by rw [hV2.out, hE, hRl, hL.out], below_drewN HB.out nq⟩)
                clear hE hRl
                go_wp2
                go_quiet (fail)
                go_wp2
                refine bodyPost_ret (v := .tuple #[.int .i64 (5400000 * (j : Int) + L), .bool true]) (by simp [results, Tryz.results71, go_sem, z2, z3]) rfl (HF.out _)
              · have hE : (R == 0 && b == 0 || R == 2700000 && a == b) = false := by (have : R = 2700000 := by (have := hRL.out; omega)); simp [this, z3]
                have HF := Lib.hid (show ∀ nq, GPost V w (.returned (.tuple #[.int .i64 (5400000 * (j : Int) + L), .bool false])) (wr.drewN nq) from fun nq => ⟨by rw [hV2.out, hE, hRl, hL.out], below_drewN HB.out nq⟩)
                clear hE hRl
                go_wp2
                go_quiet (fail)
                go_wp2
                refine bodyPost_ret (v := .tuple #[.int .i64 (5400000 * (j : Int) + L), .bool false]) (by simp [results, Tryz.results71, go_sem, z2, z3]) rfl (HF.out _)
            · have hE : (R == 0 && b == 0 || R == 2700000 && a == b) = false := by (have h1 : R ≠ 0 := by (have := hRL.out; omega)); (have h2 : R ≠ 2700000 := by (have := hRL.out; omega)); simp [h1, h2]
              have HF := Lib.hid (show ∀ nq, GPost V w (.returned (.tuple #[.int .i64 (5400000 * (j : Int) + L), .bool false])) (wr.drewN nq) from fun nq => ⟨by rw [hV2.out, hE, hRl, hL.out], below_drewN HB.out nq⟩)
              clear hE hRl
              go_wp2
              go_quiet (fail)
              go_wp2
              refine bodyPost_ret (v := .tuple #[.int .i64 (5400000 * (j : Int) + L), .bool false]) (by simp [results, Tryz.results71, go_sem]) rfl (HF.out _)
        · obtain ⟨n, rfl⟩ : ∃ n', n = n' + 1 := ⟨n - 1, by
            have := hn.out
            cases n with
            | zero => simp at this; omega
            | succ n => omega⟩
          obtain ⟨m, hm, hm1, hm2⟩ : ∃ m, m = (l + h) / 2 ∧ l < m ∧ m < h := ⟨_, rfl, by omega, by omega⟩
          have hp : 2 ^ (n + 1) = 2 * 2 ^ n := by rw [Nat.pow_succ]; omega
          have hmi : ((l : Int) + (h : Int)) / 2 = (m : Int) := by omega
          have hmt : IntKind.i64.wrap (((l : Int) + (h : Int)).tdiv 2) = (m : Int) := by rw [Int.tdiv_eq_ediv_of_nonneg (by omega), hmi]; exact IntWalk.i64_in _ (by omega)
          clear hmi
          have HM := Lib.hid (HRe.out m (by omega))
          have hs1 := hs.out
          rw [srch, if_neg hc, ← hm] at hs1
          have hn1 : m - l ≤ 2 ^ n ∧ h - m ≤ 2 ^ n := by have := hn.out; omega
          have hc2 : ¬ (h : Int) - (l : Int) ≤ 1 := by omega
          generalize reaB X Y m = r at *
          have HS := Lib.hid hs1
          have hn1 := Lib.hid hn1
          have hm := Lib.hid hm
          clear hn hs hs1 hp
          unfold pairV at HM
          obtain ⟨L, hL⟩ : ∃ L : Int, L = (l : Int) := ⟨_, rfl⟩
          obtain ⟨H, hH⟩ : ∃ H : Int, H = (h : Int) := ⟨_, rfl⟩
          obtain ⟨N, hN⟩ : ∃ N : Int, N = (m : Int) := ⟨_, rfl⟩
          have i1 : 0 ≤ L := by omega
          have i2 : L < N := by omega
          have i3 : N < H := by omega
          have i4 : H ≤ 5400000 := by omega
          have i5 : 1 < H - L := by omega
          rw [← hL, ← hH]
          rw [← hL, ← hH, ← hN] at hmt
          rw [← hN] at HM
          have hF := Lib.hid (And.intro hm1 (And.intro hm2 (And.intro hlh hh)))
          replace hL := Lib.hid hL
          replace hH := Lib.hid hH
          replace hN := Lib.hid hN
          clear hm1 hm2 hlh hh hc hc2
          go_wp2_with fail
          refine (HM.out _).mono ?_
          rintro e w1 ⟨rfl, hb⟩
          have K2 := Lib.hid (pair_below hb K1.out)
          have HB2 := Lib.hid (HB.out.trans (hb.mono HB.out.size))
          clear hb
          cases r
          · have HS1 := Lib.hid (show srch (reaB X Y) n l m = R from HS.out)
            clear HS
            go_wp2
            go_roundw
            case rel => exact ⟨n, l, m, congrArg (Value.int .i64) hL.out, congrArg (Value.int .i64) hN.out, hF.out.1, by have := hF.out; omega, hn1.out.1, HS1.out, K2.out, HB2.out⟩
            case measure => exact meas_lo i2 i3
          · have HS1 := Lib.hid (show srch (reaB X Y) n m h = R from HS.out)
            clear HS
            go_wp2
            go_roundw
            case rel => exact ⟨n, m, h, congrArg (Value.int .i64) hN.out, congrArg (Value.int .i64) hH.out, hF.out.2.1, hF.out.2.2.2, hn1.out.2, HS1.out, K2.out, HB2.out⟩
            case measure => exact meas_hi i2 i3
end Go.Proofs.YtfilgpifiboccaaGreat
