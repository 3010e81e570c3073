import Derived.Test.YtioedljihlfcaaaW4

namespace Go.Proofs.Ytioedljihlfcaaa
open Go.RowKit

set_option maxHeartbeats 400000 in
theorem rsum_any (A : Option Addr) (n c : Nat) (l : List Int) (w : World) (h : Bytes w A n c l) :
    Calls Try.prog 15 #[.slice A n c] w fun e w' => e = .returned (.int .i64 (sumL l)) ∧ w = w' := by
  have hnc := h.le
  have hc := h.cap
  have hb := h.bytes.getD
  have hcell := h.cells
  have HL := Lib.hid h.len
  clear h
  go_enter Try.func15, Try.ntmps15
  go_wp2
  go_loop [3, 4] (fun s i => ∃ k : Nat, k ≤ n ∧ i = .int .i64 k ∧ s = .int .i64 (sumL (l.take k))) (fun _ i => n - (intOf i).toNat)
  case atStart => exact ⟨0, Nat.zero_le _, rfl, rfl⟩
  case round =>
    obtain ⟨k, hk, rfl, rfl⟩ := hrel
    by_cases hlt : k < n
    · obtain ⟨b, off, rfl, _, hcc⟩ := hcell (by omega)
      have hc0 := hcc k hlt
      have hs := sumL_bd (l.take k)
      have hbb := hb k
      have HS : Hid (sumL (l.take (k+1)) = sumStep (sumL (l.take k)) (l.getD k 0)) := by
        unfold Hid; rw [take_succ_getD _ _ (by rw [HL.out]; exact hlt), sumL_snoc]
      clear hcc hcell hb
      generalize l.getD k 0 = y at *
      generalize hz : sumL (l.take k) = z at *
      have HZ := Lib.hid hz
      clear hz
      go_wp2
      go_round
      case rel =>
        refine ⟨k + 1, by omega, by go_num, ?_⟩
        rw [HS.out]; unfold sumStep; rfl
      case measure => simp [intOf]; omega
    · go_wp2
      go_ret
      exact ⟨ret_int (by rw [List.take_of_length_le (by have := HL.out; omega)]), rfl⟩

set_option maxHeartbeats 400000 in
theorem value_any (A : Option Addr) (n c : Nat) (l : List Int) (w : World) (h : Bytes w A n c l) (h4 : 4 ≤ n) :
    Calls Try.prog 57 #[.slice A n c] w fun e w' => e = .returned (.int .i64 (rd l)) ∧ ∃ m, w' = w.drewN m := by
  obtain ⟨b, off, rfl, _, hcell⟩ := h.cells (by omega)
  have c0 : w.cell? ⟨b, off, none⟩ = some (.int .u8 (l.getD 0 0)) := hcell 0 (by omega)
  have c1 := hcell 1 (by omega)
  have c2 := hcell 2 (by omega)
  have c3 := hcell 3 (by omega)
  have b0 := h.bytes.getD 0
  have b1 := h.bytes.getD 1
  have b2 := h.bytes.getD 2
  have b3 := h.bytes.getD 3
  unfold rd
  generalize l.getD 0 0 = x0 at *
  generalize l.getD 1 0 = x1 at *
  generalize l.getD 2 0 = x2 at *
  generalize l.getD 3 0 = x3 at *
  clear hcell h
  go_enter Try.func57, Try.ntmps57
  go_wp2
  go_quiet (fail)
  go_wp2
  go_ret
  exact ⟨rfl, _, rfl⟩

def nextI (l : List Int) (p : Nat) : Int := if frameOk (l.drop p) then ((p + (8 + (rd (l.drop p)).toNat) : Nat) : Int) else -1
def NextPost (w : World) (x : Int) (e : Ending) (w' : World) : Prop := e = .returned (.int .i64 x) ∧ ∃ m, w' = w.drewN m
theorem NextPost.of {w : World} {x : Int} (W : World) (h : ∃ m, W = w.drewN m) : NextPost w x (.returned (.int .i64 x)) W := ⟨rfl, h⟩

set_option maxHeartbeats 1000000 in
theorem next_any (A : Option Addr) (n c : Nat) (l : List Int) (p : Nat) (w : World) (h : Bytes w A n c l) (hp : p ≤ n) (hn : n ≤ 2000000) :
    Calls Try.prog 52 #[.slice A n c, .int .i64 (p : Int)] w (NextPost w (nextI l p)) := by
  have hl := h.len
  have hle := h.le
  have hcap := h.cap
  by_cases h8 : n - p < 8
  · have hno : nextI l p = -1 := by
      unfold nextI; rw [if_neg]; intro hf; have := ((frameOk_iff _).1 hf).1; simp at this; omega
    rw [hno]
    have HF := Lib.hid (NextPost.of (w := w) (x := -1))
    have h8' : n < p + 8 := by omega
    clear h hl hno h8
    go_enter Try.func52, Try.ntmps52
    go_wp2
    go_ret
    exact HF.out _ ⟨0, rfl⟩
  have hA : ∃ b off, A = some ⟨b, off, none⟩ := by obtain ⟨b, off, e, _⟩ := h.cells (by omega); exact ⟨b, off, e⟩
  obtain ⟨b, off, rfl⟩ := hA
  have R := (h.bytes.drop p).rd_bd
  obtain ⟨m, hm⟩ : ∃ m : Nat, rd (l.drop p) = (m : Int) := ⟨(rd (l.drop p)).toNat, by omega⟩
  rw [hm] at R
  have mk_cut : ∀ lo hi : Nat, lo < hi → hi ≤ n → Bytes w (some ⟨b, off + lo, none⟩) (hi - lo) (c - lo) ((l.drop lo).take (hi - lo)) := by
    intro lo hi h1 h2
    have := h.cut (lo := lo) (hi := hi) (by omega) h2
    rw [if_neg (by omega)] at this
    simpa only [Option.map, addr_add] using this
  have V1 : ∀ W, (∃ k, W = w.drewN k) → Calls Try.prog 57 #[.slice (some ⟨b, off + p, none⟩) 4 (c - p)] W fun e w' => e = .returned (.int .i64 (m : Int)) ∧ ∃ m, w' = W.drewN m := by
    rintro _ ⟨k, rfl⟩
    have hc := mk_cut p (p + 4) (by omega) (by omega)
    rw [show p + 4 - p = 4 by omega] at hc
    have := value_any _ _ _ _ _ (hc.drewN k) (by omega)
    have e : rd ((l.drop p).take 4) = (m : Int) := by
      rw [← hm]; unfold rd; rw [getD_take _ _ _ (by omega), getD_take _ _ _ (by omega), getD_take _ _ _ (by omega), getD_take _ _ _ (by omega)]
    rwa [e] at this
  have HV1 := Lib.hid V1
  clear V1
  have hmb : (m : Int) ≤ 4294967295 := by omega
  by_cases hbig : 65535 < m
  · have hno : nextI l p = -1 := by
      unfold nextI; rw [if_neg]; intro hf; have := ((frameOk_iff _).1 hf).2.1; omega
    rw [hno]
    have HF := Lib.hid (NextPost.of (w := w) (x := -1))
    have hd : decide ((65535 : Int) < (m : Int)) = true := decide_eq_true (by omega)
    have hlb : (65535 : Int) < (m : Int) := by omega
    have hpn : p + 8 ≤ n := by omega
    clear h hl hno h8 hm mk_cut
    go_enter Try.func52, Try.ntmps52
    go_wp2_with fail
    refine (HV1.out _ ⟨0, rfl⟩).mono ?_
    rintro e w' ⟨rfl, k1, rfl⟩
    go_wp2
    go_ret
    exact HF.out _ ⟨_, rfl⟩
  by_cases hshort : n < p + (8 + m)
  · have hno : nextI l p = -1 := by
      unfold nextI; rw [if_neg]; intro hf; have := ((frameOk_iff _).1 hf).2.2.1; simp at this; omega
    rw [hno]
    have HF := Lib.hid (NextPost.of (w := w) (x := -1))
    have hlb : (m : Int) ≤ 65535 := by omega
    have hpn : p + 8 ≤ n := by omega
    clear h hl hno h8 hm mk_cut hbig
    go_enter Try.func52, Try.ntmps52
    go_wp2_with fail
    refine (HV1.out _ ⟨0, rfl⟩).mono ?_
    rintro e w' ⟨rfl, k1, rfl⟩
    go_wp2
    go_ret
    exact HF.out _ ⟨_, rfl⟩
  obtain ⟨q, hq⟩ : ∃ q, q = p + 4 + m := ⟨_, rfl⟩
  have V2 : ∀ W, (∃ k, W = w.drewN k) → Calls Try.prog 57 #[.slice (some ⟨b, off + q, none⟩) 4 (c - q)] W fun e w' => e = .returned (.int .i64 (rd ((l.drop p).drop (4 + m)))) ∧ ∃ m, w' = W.drewN m := by
    rintro _ ⟨k, rfl⟩
    have hc := mk_cut q (q + 4) (by omega) (by omega)
    rw [show q + 4 - q = 4 by omega] at hc
    have := value_any _ _ _ _ _ (hc.drewN k) (by omega)
    have e : rd ((l.drop q).take 4) = rd ((l.drop p).drop (4 + m)) := by
      rw [List.drop_drop, ← Nat.add_assoc, ← hq]; unfold rd; rw [getD_take _ _ _ (by omega), getD_take _ _ _ (by omega), getD_take _ _ _ (by omega), getD_take _ _ _ (by omega)]
    rwa [e] at this
  have HV2 := Lib.hid V2
  clear V2
  have V3 : ∀ W, (∃ k, W = w.drewN k) → Calls Try.prog 15 #[.slice (some ⟨b, off + p, none⟩) (q - p) (c - p)] W fun e w' => e = .returned (.int .i64 (sumL ((l.drop p).take (4 + m)))) ∧ W = w' := by
    rintro _ ⟨k, rfl⟩
    have hc := mk_cut p q (by omega) (by omega)
    have e : (l.drop p).take (4 + m) = (l.drop p).take (q - p) := by congr 1; omega
    rw [e]
    exact rsum_any _ _ _ _ _ (hc.drewN k)
  have HV3 := Lib.hid V3
  clear V3
  have hxb := (((h.bytes.drop p).drop (4 + m)).rd_bd)
  generalize hx : rd ((l.drop p).drop (4 + m)) = x at *
  generalize hy : sumL ((l.drop p).take (4 + m)) = y at *
  have HX := Lib.hid hx
  have HY := Lib.hid hy
  clear hx hy
  have hlb : (m : Int) ≤ 65535 := by omega
  have hpn : p + 8 + m ≤ n := by omega
  have hqn : q + 4 ≤ n := by omega
  have hpq : p ≤ q := by omega
  have HQ := Lib.hid (show (p : Int) + 4 + (m : Int) = (q : Int) by omega)
  have e : (rd (l.drop p)).toNat = m := by omega
  have w4 : IntKind.i64.wrap ((q : Int) + 4) = (q : Int) + 4 := IntWalk.i64_in _ (by omega)
  have f1 : ((q : Int) + 4).toNat = q + 4 := by omega
  have f2 : (q : Int) + 4 ≤ (c : Int) := by omega
  have f3 : ¬ c = q := by omega
  have f4 : ¬ c = p := by omega
  have f5 : (q : Int) ≤ (c : Int) := by omega
  have f6 : (p : Int) ≤ (q : Int) := by omega
  have f7 : (0 : Int) ≤ (q : Int) + 4 := by omega
  have f8 : q ≤ c := by omega
  by_cases hxy : x = y
  · have hok : nextI l p = (q : Int) + 4 := by
      unfold nextI
      rw [if_pos, e]
      · omega
      · rw [frameOk_iff]; refine ⟨by simp; omega, by omega, by simp; omega, ?_⟩
        rw [e, HX.out, HY.out, hxy]
    rw [hok]
    have HF := Lib.hid (NextPost.of (w := w) (x := (q : Int) + 4))
    have hnb : (x != y) = false := by simp [hxy]
    clear h hl h8 hm mk_cut hbig hshort hxy hok e hq
    go_enter Try.func52, Try.ntmps52
    go_wp2_with fail
    refine (HV1.out _ ⟨0, rfl⟩).mono ?_
    rintro e w' ⟨rfl, k1, rfl⟩
    go_wp2_with fail
    rw [HQ.out]
    go_quiet (first
      | (go_at_call 57; exact quiet_add (HV2.out _ ⟨_, rfl⟩))
      | (go_at_call 15; exact quiet_add_left (HV3.out _ ⟨_, rfl⟩)))
    go_wp2
    go_ret
    first | exact HF.out _ ⟨_, rfl⟩ | exact HF.out _ ⟨_, World.drewN_drewN _ _ _⟩
  · have hno : nextI l p = -1 := by
      unfold nextI
      rw [if_neg]
      intro hf
      have := ((frameOk_iff _).1 hf).2.2.2
      rw [e, HX.out, HY.out] at this
      exact hxy this
    rw [hno]
    have HF := Lib.hid (NextPost.of (w := w) (x := -1))
    have hnb : (x != y) = true := by simp [hxy]
    clear h hl h8 hm mk_cut hbig hshort hxy hno e hq
    go_enter Try.func52, Try.ntmps52
    go_wp2_with fail
    refine (HV1.out _ ⟨0, rfl⟩).mono ?_
    rintro e w' ⟨rfl, k1, rfl⟩
    go_wp2_with fail
    rw [HQ.out]
    go_quiet (first
      | (go_at_call 57; exact quiet_add (HV2.out _ ⟨_, rfl⟩))
      | (go_at_call 15; exact quiet_add_left (HV3.out _ ⟨_, rfl⟩)))
    go_wp2
    go_ret
    first | exact HF.out _ ⟨_, rfl⟩ | exact HF.out _ ⟨_, World.drewN_drewN _ _ _⟩
end Go.Proofs.Ytioedljihlfcaaa
