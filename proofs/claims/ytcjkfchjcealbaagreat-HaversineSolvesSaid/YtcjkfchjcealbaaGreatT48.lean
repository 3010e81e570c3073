import Derived.Test.YtcjkfchjcealbaaGreatT47
namespace Go.Proofs.YtcjkfchjcealbaaGreat
open Go.RowKit SM
set_option maxHeartbeats 4000000 in
theorem rasin_any (v : Int) (hv : -1073741824 ≤ v) (w : World) : Calls Tryz.prog 100 #[.int .i64 v] w (GPost (.int .i64 (asn v)) w) := by
  obtain ⟨V, hV⟩ : ∃ V, V = Value.int .i64 (asn v) := ⟨_, rfl⟩
  have HP : ∀ a w', IsAsin v a → Below w.heap.size w w' → GPost V w (.returned (.int .i64 a)) w' := fun a w' h hb => ⟨by rw [hV, asn_eq hv h], hb⟩
  rw [← hV]
  clear hV
  have HP := Lib.hid HP
  have HB := Lib.hid (fun n w => rbelow_any n v w)
  have HG := Lib.hid (guess_any v w)
  have HZ := Lib.hid (show hib (-5400000) ≤ v by rw [hib_low]; exact hv)
  have HB0 := Lib.hid (Below.refl w.heap.size w)
  clear hv
  go_enter Tryz.func100, Tryz.ntmps100
  go_wp2_with fail
  refine HG.out.mono ?_
  rintro e w1 ⟨g, g0, g1, rfl, rfl⟩
  go_wp2_with fail
  clear HG
  go_loopw [3, 4] (fun l s wr => ∃ L S : Int, l = .int .i64 L ∧ s = .int .i64 S ∧ -5400000 ≤ L ∧ L ≤ 5400000 ∧ 1 ≤ S ∧ S ≤ 30000000 ∧ (L ≤ -5400000 ∨ S + L ≤ 5400001) ∧ Below w.heap.size w wr) (fun l _ _ => (kInt l + 5400000).toNat)
  case atStart => exact ⟨_, _, rfl, rfl, by omega, by omega, by omega, by omega, by omega, HB0.out⟩
  case round =>
    clear HB0
    obtain ⟨L, S, rfl, rfl, h1, h2, h3, h4, h5, h6⟩ := hrel
    have H6 := Lib.hid h6
    clear h6
    have HM := Lib.hid (HB.out L wr)
    have HL := Lib.hid (cmp_le L v)
    by_cases hlo : L = -5400000 ∧ 0 < cmp L v
    · exfalso
      obtain ⟨e1, e2⟩ := hlo
      subst e1
      have := HL.out
      have := HZ.out
      omega
    have bd := cmp_bd L v
    generalize cmp L v = c at *
    go_wp2_with fail
    refine HM.out.mono ?_
    rintro e w1 ⟨rfl, hb1⟩
    have H7 := Lib.hid (H6.out.trans (hb1.mono H6.out.size))
    clear hb1
    by_cases hc : 0 < c
    · by_cases hs : L - S < -5400000
      · go_wp2
        go_roundw
        case rel => exact ⟨-5400000, S * 2, rfl, by first | rfl | go_num, by omega, by omega, by omega, by omega, by omega, H7.out⟩
        case measure => simp [kInt]; omega
      · go_wp2
        go_roundw
        case rel => exact ⟨L - S, S * 2, rfl, by first | rfl | go_num, by omega, by omega, by omega, by omega, by omega, H7.out⟩
        case measure => simp [kInt]; omega
    · have HL2 := Lib.hid (HL.out.1 (by omega))
      clear bd hlo HL HM H6 h5 h4 h3
      go_wp2_with fail
      clear hc
      go_loopw [3, 5, 6] (fun l h s wr => ∃ L H S : Int, l = .int .i64 L ∧ h = .int .i64 H ∧ s = .int .i64 S ∧ -5400000 ≤ L ∧ L ≤ 5400000 ∧ L < H ∧ (L = 5400000 ∨ H ≤ 5400000) ∧ H ≤ 50000000 ∧ 1 ≤ S ∧ S ≤ 100000000 ∧ (5400000 ≤ H ∨ S ≤ H + 5400000) ∧ (5400000 < H ∨ S ≤ 21600000) ∧ RowKit.Hid (hib L ≤ v) ∧ RowKit.Hid (Below w.heap.size w wr)) (fun l _ _ _ => (5400001 - kInt l).toNat)
      case atStart => exact ⟨_, _, _, rfl, rfl, rfl, by omega, by omega, by omega, by omega, by omega, by omega, by omega, by omega, by omega, HL2, H7⟩
      case round =>
        clear HL2 H7 h1 h2
        obtain ⟨L, H, S, rfl, rfl, rfl, h1, h2, h3, h4, h5, h6, h7, h8, h9, H10, H11⟩ := hrel
        by_cases hH : H ≤ 5400000
        · have HM := Lib.hid (HB.out H wr)
          have HL := Lib.hid (cmp_le H v)
          have bd := cmp_bd H v
          generalize cmp H v = c at *
          go_wp2_with fail
          refine HM.out.mono ?_
          rintro e w2 ⟨rfl, hb1⟩
          have H12 := Lib.hid (H11.out.trans (hb1.mono H11.out.size))
          clear hb1 HM
          by_cases hc : c ≤ 0
          · have HL2 := Lib.hid (HL.out.1 hc)
            clear HL
            by_cases hq : H = 5400000
            · subst hq
              go_wp2
              go_roundw
              case rel => exact ⟨5400000, 5400000 + S, S * 2, rfl, by first | rfl | go_num, by first | rfl | go_num, by omega, by omega, by omega, by omega, by omega, by omega, by omega, by omega, by omega, HL2, H12⟩
              case measure => simp [kInt]; omega
            · by_cases hs : 5400000 < H + S
              · go_wp2
                go_roundw
                case rel => exact ⟨H, 5400000, S * 2, rfl, by first | rfl | go_num, by first | rfl | go_num, by omega, by omega, by omega, by omega, by omega, by omega, by omega, by omega, by omega, HL2, H12⟩
                case measure => simp [kInt]; omega
              · go_wp2
                go_roundw
                case rel => exact ⟨H, H + S, S * 2, rfl, by first | rfl | go_num, by first | rfl | go_num, by omega, by omega, by omega, by omega, by omega, by omega, by omega, by omega, by omega, HL2, H12⟩
                case measure => simp [kInt]; omega
          · have HV := Lib.hid (show v < hib H from by have := HL.out; omega)
            clear HL h5 h6 h7 h8 h9 bd H11
            have hne : (L == 5400000) = false := by rw [beq_eq_false_iff_ne]; omega
            go_wp2_with fail
            try rw [hne]
            clear hc hne
            go_loopw [3, 5] (fun l h wr => ∃ L H : Int, l = .int .i64 L ∧ h = .int .i64 H ∧ -5400000 ≤ L ∧ L < H ∧ H ≤ 5400000 ∧ RowKit.Hid (hib L ≤ v) ∧ RowKit.Hid (v < hib H) ∧ RowKit.Hid (Below w.heap.size w wr)) (fun l h _ => (kInt h - kInt l).toNat)
            case atStart => exact ⟨_, _, rfl, rfl, h1, h3, hH, H10, HV, H12⟩
            case round =>
              clear H10 HV H12 h1 h2 h3 h4 hH
              obtain ⟨L, H, rfl, rfl, h1, h2, h3, H4, H5, H6⟩ := hrel
              by_cases hlt : L + 1 < H
              · obtain ⟨m, hm, hm1, hm2⟩ : ∃ m, L + (H - L) / 2 = m ∧ L < m ∧ m < H := ⟨_, rfl, by omega, by omega⟩
                have HM := fun wr => Lib.hid (HB.out m wr)
                have HM := Lib.hid HM
                have HL := Lib.hid (cmp_le m v)
                have bd := cmp_bd m v
                generalize cmp m v = c at *
                go_wp2_with fail
                refine ((HM.out _).out).mono ?_
                rintro e w3 ⟨rfl, hb1⟩
                have H7 := Lib.hid (H6.out.trans (hb1.mono H6.out.size))
                clear hb1 HM hm
                by_cases hc : c ≤ 0
                · have HL2 := Lib.hid (HL.out.1 hc)
                  clear HL
                  go_wp2
                  go_roundw
                  case rel => exact ⟨m, H, rfl, rfl, by omega, by omega, by omega, HL2, H5, H7⟩
                  case measure => simp [kInt]; omega
                · have HV := Lib.hid (show v < hib m from by have := HL.out; omega)
                  clear HL
                  go_wp2
                  go_roundw
                  case rel => exact ⟨L, m, rfl, rfl, by omega, by omega, by omega, H4, HV, H7⟩
                  case measure => simp [kInt]; omega
              · have HF := Lib.hid (HP.out L wr ⟨h1, by omega, H4.out, .inr (by rw [show L + 1 = H by omega]; exact H5.out)⟩ H6.out)
                go_wp2
                go_ret
                exact HF.out
        · have HF := Lib.hid (HP.out L wr ⟨h1, h2, H10.out, .inl (by omega)⟩ H11.out)
          go_wp2
          go_ret
          exact HF.out
end Go.Proofs.YtcjkfchjcealbaaGreat
