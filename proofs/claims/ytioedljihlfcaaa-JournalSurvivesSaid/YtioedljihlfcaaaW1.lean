import Derived.Test.YtioedljihlfcaaaLib

namespace Go.Proofs.Ytioedljihlfcaaa
open Go.RowKit

set_option maxHeartbeats 400000 in
theorem sum_any (A : Option Addr) (n c : Nat) (l : List Int) (w : World) (h : Bytes w A n c l) :
    Calls Try.prog 37 #[.slice A n c] w fun e w' => e = .returned (.int .u32 (sumL l)) ∧ w = w' := by
  have hnc := h.le
  have hc := h.cap
  have hb := h.bytes.getD
  have hcell := h.cells
  have HL := Lib.hid h.len
  clear h
  go_enter Try.func37, Try.ntmps37
  go_wp2
  go_loop [3, 8] (fun s i => ∃ k : Nat, k ≤ n ∧ i = .int .i64 k ∧ s = .int .u32 (sumL (l.take k))) (fun _ i => n - (intOf i).toNat)
  case atStart => exact ⟨0, Nat.zero_le _, rfl, rfl⟩
  case round =>
    obtain ⟨k, hk, rfl, rfl⟩ := hrel
    by_cases hlt : k < n
    · obtain ⟨b, off, rfl, _, hcc⟩ := hcell (by omega)
      have hc0 := hcc k hlt
      have hs := sumL_bd (l.take k)
      have hbb := hb k
      have HS : Hid (sumL (l.take (k+1)) = sumStep (sumL (l.take k)) (l.getD k 0)) := by
        unfold Hid; rw [take_succ_getD _ _ (by rw [HL.out]; exact hlt), sumL_snoc]
      clear hcc hcell hb
      go_wp2
      go_round
      case rel =>
        refine ⟨k + 1, by omega, by go_num, ?_⟩
        rw [HS.out]; unfold sumStep; rw [← List.getD_eq_getElem?_getD]; congr 1; omega
      case measure => simp [intOf]; omega
    · go_wp2
      go_ret
      exact ⟨ret_int (by rw [List.take_of_length_le (by have := HL.out; omega)]), rfl⟩

theorem u32_or_add (a b : Int) (k : Nat) (h0 : 0 ≤ a) (hb : 0 ≤ b ∧ b < 2 ^ k) (h1 : a * 2 ^ k + b < 4294967296) : bits BinOp.or IntKind.u32 (a * 2 ^ k) b = a * 2 ^ k + b := by
  obtain ⟨m, rfl⟩ := Int.eq_ofNat_of_zero_le h0
  obtain ⟨n, rfl⟩ := Int.eq_ofNat_of_zero_le hb.1
  have e1 : (m : Int) * 2 ^ k = ((m * 2 ^ k : Nat) : Int) := by simp
  have e0 : ((2 : Int) ^ k) = ((2 ^ k : Nat) : Int) := by simp
  have hb2 : n < 2 ^ k := by have h := hb.2; rw [e0] at h; exact Int.ofNat_lt.1 h
  have h2 : m * 2 ^ k + n < 4294967296 := by have h := h1; rw [e1] at h; omega
  rw [e1]
  show IntKind.u32.wrap ((BitVec.ofInt 32 ((m * 2 ^ k : Nat) : Int) ||| BitVec.ofInt 32 (n : Int)).toNat : Int) = _
  rw [BitVec.toNat_or, BitVec.ofInt_natCast, BitVec.ofInt_natCast, BitVec.toNat_ofNat, BitVec.toNat_ofNat, Nat.mod_eq_of_lt (by omega), Nat.mod_eq_of_lt (by omega)]
  have e3 : m * 2 ^ k ||| n = m * 2 ^ k + n := by
    rw [Nat.mul_comm]; exact (Nat.two_pow_add_eq_or_of_lt hb2 m).symm
  rw [e3, IntKind.wrap_u32]
  omega

theorem or4 (a b c d : Int) (ha : 0 ≤ a ∧ a < 256) (hb : 0 ≤ b ∧ b < 256) (hc : 0 ≤ c ∧ c < 256) (hd : 0 ≤ d ∧ d < 256) :
    bits BinOp.or IntKind.u32 (bits BinOp.or IntKind.u32 (bits BinOp.or IntKind.u32 (a * 16777216) (b * 65536)) (c * 256)) d = a * 16777216 + b * 65536 + c * 256 + d := by
  have e1 : bits BinOp.or IntKind.u32 (a * 16777216) (b * 65536) = a * 16777216 + b * 65536 :=
    u32_or_add a (b * 65536) 24 (by omega) (by omega) (by omega)
  have e2 : bits BinOp.or IntKind.u32 (a * 16777216 + b * 65536) (c * 256) = a * 16777216 + b * 65536 + c * 256 := by
    have := u32_or_add (a * 256 + b) (c * 256) 16 (by omega) (by omega) (by omega)
    rw [show a * 16777216 + b * 65536 = (a * 256 + b) * 2 ^ 16 by omega]; exact this
  have e3 : bits BinOp.or IntKind.u32 (a * 16777216 + b * 65536 + c * 256) d = a * 16777216 + b * 65536 + c * 256 + d := by
    have := u32_or_add (a * 65536 + b * 256 + c) d 8 (by omega) (by omega) (by omega)
    rw [show a * 16777216 + b * 65536 + c * 256 = (a * 65536 + b * 256 + c) * 2 ^ 8 by omega]; exact this
  rw [e1, e2, e3]

set_option maxHeartbeats 400000 in
theorem read_any (A : Option Addr) (n c : Nat) (l : List Int) (w : World) (h : Bytes w A n c l) (h4 : 4 ≤ n) :
    Calls Try.prog 56 #[.slice A n c] w fun e w' => e = .returned (.int .u32 (rd l)) ∧ ∃ m, w' = w.drewN m := by
  obtain ⟨b, off, rfl, _, hcell⟩ := h.cells (by omega)
  have c0 : w.cell? ⟨b, off, none⟩ = some (.int .u8 (l.getD 0 0)) := hcell 0 (by omega)
  have c1 := hcell 1 (by omega)
  have c2 := hcell 2 (by omega)
  have c3 := hcell 3 (by omega)
  have b0 := h.bytes.getD 0
  have b1 := h.bytes.getD 1
  have b2 := h.bytes.getD 2
  have b3 := h.bytes.getD 3
  have HO := Lib.hid (or4 _ _ _ _ b0 b1 b2 b3)
  unfold rd
  generalize l.getD 0 0 = x0 at *
  generalize l.getD 1 0 = x1 at *
  generalize l.getD 2 0 = x2 at *
  generalize l.getD 3 0 = x3 at *
  clear hcell h
  go_enter Try.func56, Try.ntmps56
  go_wp2
  go_quiet (fail)
  go_wp2
  go_ret
  exact ⟨ret_int HO.out, _, rfl⟩

set_option maxHeartbeats 400000 in
theorem number_any (x : Int) (w : World) (h0 : 0 ≤ x) (h1 : x < 4294967296) :
    Calls Try.prog 53 #[.int .u32 x] w fun e w' => ∃ v, e = .returned v ∧ w'.ownsRow w.heap.size 5 1 v 4 ((num4 x).map (Value.int .u8)) ∧ Below w.heap.size w w' := by
  go_enter Try.func53, Try.ntmps53
  go_wp2
  go_ret
  refine ⟨_, rfl, ⟨by simp [num4], .inr ⟨w.heap.size, 4, #[.int .u8 (x / 16777216), .int .u8 (x / 65536 % 256), .int .u8 (x / 256 % 256), .int .u8 (x % 256)], rfl, Nat.le_refl _, heap_alloc_new w _, by omega, by decide, rfl, ?_⟩⟩, (Below.refl _ _).alloc (Nat.le_refl _) _⟩
  simp [num4]

theorem undec {p : Prop} [Decidable p] (h : ¬ p) : decide p = false := decide_eq_false h

theorem drewN_any (w w2 : World) (h : ∃ a, w2 = w.drewN a) {b : Nat} : ∃ k, w2.drewN b = w.drewN k := by obtain ⟨a, rfl⟩ := h; exact ⟨_, World.drewN_drewN _ _ _⟩

def recPost (w0 w : World) (n : Nat) (l : List Int) (e : Ending) (w' : World) : Prop :=
  (∃ m, w' = w.drewN m) ∧
  (frameOk l = true → ∃ A1 c1 A2 c2, e = .returned (.tuple #[.slice A1 (rd l).toNat c1, .slice A2 (n - (8 + (rd l).toNat)) c2, .bool true]) ∧ Bytes w0 A1 (rd l).toNat c1 (recOf l) ∧ Bytes w0 A2 (n - (8 + (rd l).toNat)) c2 (restOf l)) ∧
  (frameOk l = false → e = .returned (.tuple #[.slice none 0 0, .slice none 0 0, .bool false]))

theorem recPost_no {w0 w : World} {n : Nat} {l : List Int} (hno : frameOk l = false) : ∀ W, (∃ k, W = w.drewN k) → recPost w0 w n l (.returned (.tuple #[.slice none 0 0, .slice none 0 0, .bool false])) W :=
  fun W hW => ⟨hW, fun h => absurd (hno.symm.trans h) (by decide), fun _ => rfl⟩

set_option maxHeartbeats 1000000 in
theorem record_any (A : Option Addr) (n c : Nat) (l : List Int) (w0 w : World) (h0 : Bytes w0 A n c l) (h : Bytes w A n c l) :
    Calls Try.prog 48 #[.slice A n c] w (recPost w0 w n l) := by
  have hl := Lib.hid h.len
  have hle := h.le
  have hcap := h.cap
  by_cases h8 : n < 8
  · have hno : frameOk l = false := by
      cases hf : frameOk l with
      | false => rfl
      | true => have := (frameOk_iff l).1 hf; have := hl.out; omega
    have HF := Lib.hid (recPost_no (w0 := w0) (w := w) (n := n) hno)
    clear hno
    go_enter Try.func48, Try.ntmps48
    go_wp2
    go_ret3
    exact HF.out _ ⟨0, rfl⟩
  have hA : ∃ b off, A = some ⟨b, off, none⟩ := by obtain ⟨b, off, e, _⟩ := h.cells (by omega); exact ⟨b, off, e⟩
  obtain ⟨b, off, rfl⟩ := hA
  have R := h.bytes.rd_bd
  obtain ⟨m, hm⟩ : ∃ m : Nat, rd l = (m : Int) := ⟨(rd l).toNat, by omega⟩
  have hmb : (m : Int) ≤ 4294967295 := by omega
  have rd_c : ∀ W, (∃ k, W = w.drewN k) → Calls Try.prog 56 #[.slice (some ⟨b, off, none⟩) n c] W fun e w' => e = .returned (.int .u32 (m : Int)) ∧ ∃ m, w' = W.drewN m := by
    rintro _ ⟨k, rfl⟩
    rw [← hm]; exact read_any _ _ _ _ _ (h.drewN k) (by omega)
  have RC := Lib.hid rd_c
  clear rd_c
  by_cases hbig : 65535 < m
  · have hno : frameOk l = false := by
      cases hf : frameOk l with
      | false => rfl
      | true => have := (frameOk_iff l).1 hf; omega
    have HF := Lib.hid (recPost_no (w0 := w0) (w := w) (n := n) hno)
    clear hno
    have hlb : (65535 : Int) < (m : Int) := by omega
    have HM := Lib.hid hm
    clear h h0 hm
    go_enter Try.func48, Try.ntmps48
    go_wp2_with fail
    refine (RC.out _ ⟨0, rfl⟩).mono ?_
    rintro e w' ⟨rfl, k1, rfl⟩
    go_wp2_with fail
    go_quiet (fail)
    go_wp2
    go_ret3
    exact HF.out _ ⟨_, by rw [World.drewN_drewN]⟩
  by_cases hshort : n < m + 8
  · have hno : frameOk l = false := by
      cases hf : frameOk l with
      | false => rfl
      | true => have := (frameOk_iff l).1 hf; have := hl.out; omega
    have HF := Lib.hid (recPost_no (w0 := w0) (w := w) (n := n) hno)
    clear hno
    have hlb : ¬ (65535 : Int) < (m : Int) := by omega
    have hd : decide ((65535 : Int) < (m : Int)) = false := decide_eq_false hlb
    have hd2 : decide ((n : Int) < (m : Int) + 8) = true := decide_eq_true (by omega)
    have w8 : IntKind.i64.wrap ((m : Int) + 8) = (m : Int) + 8 := IntWalk.i64_in _ (by omega)
    have HM := Lib.hid hm
    clear h h0 hm
    go_enter Try.func48, Try.ntmps48
    go_wp2_with fail
    refine (RC.out _ ⟨0, rfl⟩).mono ?_
    rintro e w' ⟨rfl, k1, rfl⟩
    go_wp2_with fail
    go_quiet (fail)
    go_wp2
    go_ret3
    exact HF.out _ ⟨_, by rw [World.drewN_drewN]⟩
  have rd_c : ∀ W, (∃ k, W = w.drewN k) → Calls Try.prog 56 #[.slice (some ⟨b, off + (4 + m), none⟩) (n - (4 + m)) (c - (4 + m))] W fun e w' => e = .returned (.int .u32 (rd (l.drop (4 + m)))) ∧ ∃ m, w' = W.drewN m := by
    rintro _ ⟨k, rfl⟩
    have := h.to_end (lo := 4 + m) (by omega)
    rw [if_neg (by omega)] at this
    simp only [Option.map, Addr.add, if_neg (show ¬ 4 + m = 0 by omega)] at this
    exact read_any _ _ _ _ _ (this.drewN k) (by omega)
  have RC2 := Lib.hid rd_c
  clear rd_c
  have sum_c : ∀ W, (∃ k, W = w.drewN k) → Calls Try.prog 37 #[.slice (some ⟨b, off, none⟩) (4 + m) c] W fun e w' => e = .returned (.int .u32 (sumL (l.take (4 + m)))) ∧ W = w' := by
    rintro _ ⟨k, rfl⟩
    exact sum_any _ _ _ _ _ ((h.upto (hi := 4 + m) (by omega)).drewN k)
  have SC := Lib.hid sum_c
  clear sum_c
  generalize hx : rd (l.drop (4 + m)) = x at *
  generalize hy : sumL (l.take (4 + m)) = y at *
  have HX := Lib.hid hx
  have HY := Lib.hid hy
  clear hx hy
  have hlb : ¬ (65535 : Int) < (m : Int) := by omega
  have hd : decide ((65535 : Int) < (m : Int)) = false := decide_eq_false hlb
  have hd2 : decide ((n : Int) < (m : Int) + 8) = false := decide_eq_false (by omega)
  have hmn : m + 8 ≤ n := by omega
  have w8 : IntKind.i64.wrap ((m : Int) + 8) = (m : Int) + 8 := IntWalk.i64_in _ (by omega)
  have w4 : IntKind.i64.wrap (4 + (m : Int)) = 4 + (m : Int) := IntWalk.i64_in _ (by omega)
  have w8' : IntKind.i64.wrap (8 + (m : Int)) = 8 + (m : Int) := IntWalk.i64_in _ (by omega)
  have f1 : (0 : Int) ≤ 4 + (m : Int) := by omega
  have f2 : (4 : Int) + (m : Int) ≤ (n : Int) := by omega
  have f3 : (4 + (m : Int)).toNat = 4 + m := by omega
  have f4 : ¬ c = 4 + m := by omega
  have f5 : (0 : Int) ≤ 8 + (m : Int) := by omega
  have f6 : (8 : Int) + (m : Int) ≤ (n : Int) := by omega
  have f7 : (8 + (m : Int)).toNat = 8 + m := by omega
  have f11 : (4 : Int) + (m : Int) ≤ (c : Int) := by omega
  by_cases hxy : x = y
  · have hok : frameOk l = true := by
      rw [frameOk_iff]; refine ⟨by have := hl.out; omega, by omega, by have := hl.out; omega, ?_⟩
      have e : (rd l).toNat = m := by omega
      rw [e, HX.out, HY.out, hxy]
    have e : (rd l).toNat = m := by omega
    have B1 := h0.cut (lo := 4) (hi := 4 + m) (by omega) (by omega)
    have B2 := h0.to_end (lo := 8 + m) (by omega)
    rw [show 4 + m - 4 = m by omega] at B1
    have hfin : ∀ A1 c1 A2 c2, Bytes w0 A1 m c1 ((l.drop 4).take m) → Bytes w0 A2 (n - (8 + m)) c2 (l.drop (8 + m)) → ∀ W, (∃ k, W = w.drewN k) → recPost w0 w n l (.returned (.tuple #[.slice A1 m c1, .slice A2 (n - (8 + m)) c2, .bool true])) W := by
      intro A1 c1 A2 c2 h1 h2 W hW
      refine ⟨hW, fun _ => ⟨A1, c1, A2, c2, by rw [e], by rw [e, recOf, e]; exact h1, by rw [e, restOf, e]; exact h2⟩, fun hf => absurd (hok.symm.trans hf) (by decide)⟩
    rw [if_neg (by omega)] at B1
    simp only [Option.map, Addr.add, if_neg (show ¬ 4 = 0 by omega), if_neg (show ¬ 8 + m = 0 by omega)] at B1 B2
    have HB1 := Lib.hid B1
    have hxb : (x == y) = true := by simp [hxy]
    have hnb : (x != y) = false := by simp [hxy]
    clear h h0 hm hxy hok e
    by_cases hc8 : c = 8 + m
    · subst hc8
      have hz : n - (8 + m) = 0 := by omega
      rw [if_pos rfl, Nat.sub_self, hz] at B2
      rw [hz] at hfin
      have HF := Lib.hid hfin
      have HB2 := Lib.hid B2
      clear B1 B2 hz hfin
      go_enter Try.func48, Try.ntmps48
      go_wp2_with fail
      refine (RC.out _ ⟨0, rfl⟩).mono ?_
      rintro e w' ⟨rfl, k1, rfl⟩
      go_wp2_with fail
      go_quiet (first
        | (go_at_call 56; exact quiet_add (RC2.out _ ⟨_, rfl⟩))
        | (go_at_call 37; exact quiet_add_left (SC.out _ ⟨_, rfl⟩)))
      go_wp2
      go_quiet (fail)
      go_wp2
      go_ret3
      refine HF.out _ _ _ _ HB1.out HB2.out _ ?_
      exact drewN_any _ _ ⟨_, World.drewN_drewN _ _ _⟩
    · rw [if_neg hc8] at B2
      have HF := Lib.hid hfin
      have HB2 := Lib.hid B2
      clear B1 B2 hfin
      go_enter Try.func48, Try.ntmps48
      go_wp2_with fail
      refine (RC.out _ ⟨0, rfl⟩).mono ?_
      rintro e w' ⟨rfl, k1, rfl⟩
      go_wp2_with fail
      go_quiet (first
        | (go_at_call 56; exact quiet_add (RC2.out _ ⟨_, rfl⟩))
        | (go_at_call 37; exact quiet_add_left (SC.out _ ⟨_, rfl⟩)))
      go_wp2
      go_quiet (fail)
      go_wp2
      go_ret3
      refine HF.out _ _ _ _ HB1.out HB2.out _ ?_
      exact drewN_any _ _ ⟨_, World.drewN_drewN _ _ _⟩
  · have hno : frameOk l = false := by
      cases hf : frameOk l with
      | false => rfl
      | true =>
        have := ((frameOk_iff l).1 hf).2.2.2
        have e : (rd l).toNat = m := by omega
        rw [e, HX.out, HY.out] at this
        exact absurd this hxy
    have HF := Lib.hid (recPost_no (w0 := w0) (w := w) (n := n) hno)
    have hxb : (x == y) = false := by simp [hxy]
    have hnb : (x != y) = true := by simp [hxy]
    clear h h0 hm hxy hno
    go_enter Try.func48, Try.ntmps48
    go_wp2_with fail
    refine (RC.out _ ⟨0, rfl⟩).mono ?_
    rintro e w' ⟨rfl, k1, rfl⟩
    go_wp2_with fail
    go_quiet (first
      | (go_at_call 56; exact quiet_add (RC2.out _ ⟨_, rfl⟩))
      | (go_at_call 37; exact quiet_add_left (SC.out _ ⟨_, rfl⟩)))
    go_wp2
    go_ret3
    exact HF.out _ ⟨_, by rw [World.drewN_drewN]⟩
end Go.Proofs.Ytioedljihlfcaaa
