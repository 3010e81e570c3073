import Derived.Test.YtioedljihlfcaaaW31
import Derived.Deep.RegionWith

namespace Go.Proofs.Ytioedljihlfcaaa
open Go.RowKit

theorem Recs.set1 {w : World} {B : Nat} {p : Addr} (hp : p.block < B) (u : Value) : ∀ {vs : List Value} {rs : List (List Int)}, Recs w B vs rs → Recs (w.setCell p u) B vs rs
  | [], [], _ => trivial
  | _ :: _, _ :: _, ⟨⟨A, c, hv, ho⟩, h⟩ => ⟨⟨A, c, hv, ownsRow_setCell_below ho hp u⟩, Recs.set1 hp u h⟩
theorem Recs.set3 {w : World} {B g : Nat} (hp : g < B) (x y z : Value) {vs : List Value} {rs : List (List Int)} (h : Recs w B vs rs) : Recs (((w.setCell ⟨g, 0, none⟩ x).setCell ⟨g, 1, none⟩ y).setCell ⟨g, 2, none⟩ z) B vs rs :=
  Recs.set1 hp z (Recs.set1 hp y (Recs.set1 hp x h))
theorem own_set3 {w : World} {B g n : Nat} {t : TypeId} (hp : g < B) (x y z : Value) {v : Value} {xs : List Value} (h : w.ownsRow B t 1 v n xs) : (((w.setCell ⟨g, 0, none⟩ x).setCell ⟨g, 1, none⟩ y).setCell ⟨g, 2, none⟩ z).ownsRow B t 1 v n xs :=
  ownsRow_setCell_below (ownsRow_setCell_below (ownsRow_setCell_below h hp x) hp y) hp z
theorem Recs.mono {w : World} {B B' : Nat} (hB : B' ≤ B) : ∀ {vs : List Value} {rs : List (List Int)}, Recs w B vs rs → Recs w B' vs rs
  | [], [], _ => trivial
  | _ :: _, _ :: _, ⟨⟨A, c, hv, ho⟩, h⟩ => ⟨⟨A, c, hv, own_mono ho hB⟩, Recs.mono hB h⟩
theorem own_cap {w : World} {B n c : Nat} {t : TypeId} {A : Option Addr} {xs : List Value} (h : w.ownsRow B t 1 (.slice A n c) n xs) : n ≤ c ∧ c ≤ 9223372036854775807 := by
  rcases h.2 with ⟨hv, _⟩ | ⟨g, cap, cur, hv, _, _, hnc, hm, _⟩
  · injection hv with h1 h2 h3; omega
  · injection hv with h1 h2 h3; unfold maxLen at hm; omega

theorem wpList_append_g {P : Program} (w : World) {ops : Array Oper} {rest : List Oper} {o : Oper} {a : Act} {Q : Exit → Act → World → Prop} (hw : Region.wanted o (yielded ops a.tmps) = true) (s x : Operand) (t : TypeId)
    (ho : o.op = .call { callee := .builtin .append, args := #[s, x], argTypes := #[t, t] })
    (base : Nat) (e : TypeId) (i : TypeInfo) (z : Value) (size bytes : Nat) (ht : P.underlying t = some (.slice e)) (hi : P.info? e = some i) (hz : i.zero = some z)
    (hsize : i.size = size) (hby : i.bytes = bytes) (hzs : z.cells.size = size) (hsz : 0 < size)
    (v : Value) (n : Nat) (xs : List Value) (hs : a.eval s = v) (hown : w.ownsRow base e size v n xs)
    (B : Nat) (A : Option Addr) (m c : Nat) (news : List Value) (hx : a.eval x = .slice A m c) (hr : Reads w B size A m news) (h1 : ∀ u ∈ news, u.oneCell' = true)
    (h63 : n + m ≤ maxLen) (hbytes : (n + m) * bytes ≤ 140737488355328) (hbase : base ≤ w.heap.size)
    (h : ∀ v' w', w'.ownsRow base e size v' (n + m) (xs ++ news) → w.grownBy w' v.ownBlock → (v'.ownBlock = v.ownBlock ∨ v'.ownBlock = some w.heap.size) → wpList P ops Q rest (a.put o.dst v') w') : wpList P ops Q (o :: rest) a w := by
  unfold wpList
  rw [if_pos hw]
  exact .inl (wp_append_any w s x t ho base e i z size bytes ht hi hz hsize hby hzs hsz v n xs hs hown B A m c news hx hr h1 h63 hbytes hbase h)
theorem reads_one (w : World) (x : Value) (t : TypeId) : Reads (w.alloc (.cells #[x] t)) (w.heap.size + 1) 1 (some ⟨w.heap.size, 0, none⟩) 1 [x] :=
  ⟨rfl, fun _ => ⟨_, rfl, Nat.lt_succ_self _, one_new w x t⟩⟩

structure SRel (w : World) (g n : Nat) (v11 v12 v52 : Value) (wr : World) (k : Nat) (Ad : Option Addr) (cd : Nat) (l : List Int) (s a : Int) (D : List (List Int)) (sy : Nat) (vs : List Value) : Prop where
  le : k ≤ n
  i_ : v52 = .int .i64 (k : Int)
  sy_ : v12 = .int .i64 (sy : Int)
  live : Live l s a D sy k
  box : Bx wr g (.slice Ad l.length cd) (.int .i64 s) (.int .i64 a)
  bytes : Bytes wr Ad l.length cd l
  own : wr.ownsRow (g + 1) 22 1 v11 D.length vs
  vals : ValsIn w vs D
  below : Below w.heap.size w wr

set_option maxRecDepth 100000 in
set_option maxHeartbeats 1000000 in
theorem surv_1 (x : Int) (A : Option Addr) (n c : Nat) (ac : List (Bool × List Int)) (kp : Int) (A' : Option Addr) (n' c' : Nat) (b : List Int) (w : World) (h : ActsIn w A n ac) (h' : Bytes w A' n' c' b)
    (hs : x < -1 ∨ 1048576 < x ∨ 14 < n ∨ 60 < n' ∨ tooLongA ac = true) : Calls Try.prog 8 #[.int .i64 x, .slice A n c, .int .u16 kp, .slice A' n' c'] w (SamePost w true) := by
  have hle := h.le
  have hle' := h'.le
  have hcap' := h'.cap
  have HA := Lib.hid (awake_any w)
  have HC := Lib.hid (fun W hb => containsa_any A n c ac W (h.below (w' := W) hb (Nat.le_refl _)))
  have HS := Lib.hid hs
  clear h hs h'
  go_enter Try.func8, Try.ntmps8
  go_wp2_with fail
  refine HA.out.mono ?_
  rintro e w1 ⟨rfl, hb⟩
  have HB := Lib.hid hb
  have hsz := hb.size
  have HF := Lib.hid (show SamePost w true (.returned (.bool true)) w1 from ⟨rfl, HB.out⟩)
  clear hb
  by_cases h0 : x < -1
  · have d0 : decide (x < -1) = true := decide_eq_true h0
    go_wp2
    go_ret
    exact HF.out
  have d0 : decide (x < -1) = false := decide_eq_false h0
  by_cases h1 : 1048576 < x
  · have d1 : decide (1048576 < x) = true := decide_eq_true h1
    go_wp2
    go_ret
    exact HF.out
  have d1 : decide (1048576 < x) = false := decide_eq_false h1
  by_cases h2 : 14 < n
  · have d2 : decide ((14 : Int) < (n : Int)) = true := decide_eq_true (by omega)
    go_wp2
    go_ret
    exact HF.out
  have d2 : decide ((14 : Int) < (n : Int)) = false := decide_eq_false (by omega)
  by_cases h3 : 60 < n'
  · have d3 : decide ((60 : Int) < (n' : Int)) = true := decide_eq_true (by omega)
    go_wp2
    go_ret
    exact HF.out
  have d3 : decide ((60 : Int) < (n' : Int)) = false := decide_eq_false (by omega)
  have HT := Lib.hid (show tooLongA ac = true by rcases HS.out with h | h | h | h | h <;> first | exact h | omega)
  have HCC := Lib.hid (HC.out _ HB.out)
  rw [HT.out] at HCC
  go_wp2_with fail
  refine HCC.out.mono ?_
  rintro e w2 ⟨rfl, hb⟩
  have HF2 := Lib.hid (show SamePost w true (.returned (.bool true)) w2 from ⟨rfl, HB.out.trans (hb.mono hsz)⟩)
  clear hb
  go_wp2
  go_ret
  exact HF2.out

set_option maxHeartbeats 8000000 in
set_option maxRecDepth 100000 in
theorem surv_2 (x : Int) (A : Option Addr) (n c : Nat) (ac : List (Bool × List Int)) (kp : Int) (A' : Option Addr) (n' c' : Nat) (b : List Int) (w : World) (h : ActsIn w A n ac) (h' : Bytes w A' n' c' b) (hkp : 0 ≤ kp ∧ kp < 65536)
    (hx : -1 ≤ x ∧ x ≤ 1048576) (h2 : n ≤ 14) (h3 : n' ≤ 60) (hl : tooLongA ac = false) : Calls Try.prog 8 #[.int .i64 x, .slice A n c, .int .u16 kp, .slice A' n' c'] w (SamePost w true) := by
  have hle := h.le
  have hle' := h'.le
  have hcap' := h'.cap
  have HA := Lib.hid (awake_any w)
  have HC := Lib.hid (fun W hb => containsa_any A n c ac W (h.below (w' := W) hb (Nat.le_refl _)))
  have HT := Lib.hid hl
  have HAC := Lib.hid h
  have HYL := Lib.hid h'
  have HLL := Lib.hid h'.len
  have HL := Lib.hid h.len
  clear h h' hl
  have d0 : decide (x < -1) = false := decide_eq_false (by omega)
  have d1 : decide (1048576 < x) = false := decide_eq_false (by omega)
  have d2 : decide ((14 : Int) < (n : Int)) = false := decide_eq_false (by omega)
  have d3 : decide ((60 : Int) < (n' : Int)) = false := decide_eq_false (by omega)
  go_enter Try.func8, Try.ntmps8
  go_wp2_with fail
  refine HA.out.mono ?_
  rintro e w1 ⟨rfl, hb⟩
  have HB1 := Lib.hid hb
  have hs1 := hb.size
  have HCC := Lib.hid (HC.out _ hb)
  rw [HT.out] at HCC
  clear hb HC HA
  go_wp2_with fail
  refine HCC.out.mono ?_
  rintro e w2 ⟨rfl, hb⟩
  have HB2 := Lib.hid (HB1.out.trans (hb.mono hs1))
  have hs2 := HB2.out.size
  clear hb
  go_wp2_with fail
  refine (format_ok x w2 hx.1 hx.2).mono ?_
  intro e w3 hp
  obtain ⟨A3, c3, rfl, ho3, hb3⟩ := DPost.open' (d := ⟨[], 0, x, 0⟩) hp ⟨rfl, rfl, rfl, rfl⟩ rfl
  have HB3 := Lib.hid (HB2.out.trans (hb3.mono hs2))
  have hs3 := HB3.out.size
  have HST := Lib.hid (show SRel w w3.heap.size n (.slice none 0 0) (.int .i64 0) (.int .i64 0) (w3.alloc (.cells #[.slice A3 0 c3, .int .i64 0, .int .i64 x] 24)) 0 A3 c3 [] 0 x [] 0 [] from
    ⟨by omega, rfl, rfl, Live.start x hx, Bx.new w3 (.slice A3 0 c3) (.int .i64 0) (.int .i64 x), (bytes_of_own ho3 AllBytes.nil).alloc _, World.ownsRow_nil _ _ _ _, ValsIn.nil _, HB3.out.alloc hs3 _⟩)
  clear hp ho3 hb3 HCC
  have hgw : w.heap.size ≤ w3.heap.size := hs3
  go_wp2_with fail
  go_loopw [11, 12, 52] (fun v11 v12 v52 wr => ∃ k Ad cd l s a D sy vs, SRel w w3.heap.size n v11 v12 v52 wr k Ad cd l s a D sy vs) (fun _ _ i _ => n - (intOf i).toNat)
  case atStart => exact ⟨_, _, _, _, _, _, _, _, _, HST.out⟩
  case round =>
    clear HST
    obtain ⟨k, Ad, cd, l, s, a, D, sy, vs, hk, rfl, rfl, hlive, hbox, hby, hown, hvals, hbel⟩ := hrel
    have HLV := Lib.hid hlive
    have HX := Lib.hid hbox
    have HY := Lib.hid hby
    have HO := Lib.hid hown
    have HV := Lib.hid hvals
    have HB := Lib.hid hbel
    have hsr := hbel.size
    have hgx := hbox.lt
    have hcnt := hlive.cnt
    have hsyl := hlive.le
    obtain ⟨Av, cv, rfl⟩ := own_slice hown
    have hlen := hlive.len
    clear hlive hbox hby hown hvals hbel
    by_cases hlt : k < n
    · obtain ⟨bq, off, rfl, hbl, hcell⟩ := HAC.out.cells (by omega)
      obtain ⟨Ai, ni, ci, hc0, hc1, hBi⟩ := hcell k hlt
      have hd0 := (HB.out.cell (p := ⟨bq, off + k * 2, none⟩) hbl).trans hc0
      have hd1 := (HB.out.cell (p := ⟨bq, off + k * 2 + 1, none⟩) hbl).trans hc1
      have hmem : ac.getD k (false, []) ∈ ac := by
        rw [List.getD_eq_getElem?_getD, List.getElem?_eq_getElem (by have := HL.out; omega)]; exact List.getElem_mem _
      have hr60 : (ac.getD k (false, [])).2.length ≤ 60 := by
        have := HT.out
        rw [tooLongA, List.any_eq_false] at this
        simpa using this _ hmem
      have HBi := Lib.hid hBi
      have HO1 := Lib.hid (fun o => World.ownsRow.alloc HO.out o)
      have hni := hBi.len
      rw [hni] at hr60
      have HNI := Lib.hid hni
      clear hcell hc0 hc1 hBi hmem hni
      generalize (ac.getD k (false, [])).1 = sk at *
      generalize (ac.getD k (false, [])).2 = r at *
      cases sk with
      | true =>
        have HK := Lib.hid (sync_any Ad l.length cd l s a (wr.alloc (.cells #[.bool true, .slice Ai ni ci] 58)) (HY.out.alloc _))
        have HLS := Lib.hid (HLV.out.sync (by omega))
        generalize syncD l s a = d at *
        obtain ⟨⟨p0, p1, p2⟩, f0, f1, f2⟩ := HX.out
        go_wp2_with fail
        refine (HK.out).mono ?_
        intro e w4 hp
        obtain ⟨A4, c4, rfl, hy, ho, hb⟩ := hp.open_ (by rcases HLS.out with ⟨_, hlv⟩ | ⟨_, hlv⟩ <;> exact hlv.bytes)
        have hz := hb.size
        have HBp := Lib.hid ((HB.out.alloc hsr (.cells #[.bool true, .slice Ai ni ci] 58)).trans (hb.mono (by simp; omega)))
        obtain ⟨⟨q0, q1, q2⟩, g0, g1, g2⟩ := (HX.out.alloc (.cells #[.bool true, .slice Ai ni ci] 58)).next hb
        have HX4 := Lib.hid (Bx.write (w := w4) (b := w3.heap.size) ⟨⟨q0, q1, q2⟩, g0, g1, g2⟩ (.slice A4 d.l.length c4) (.int .i64 d.s) (.int .i64 d.a))
        have HY4 := Lib.hid (bytes_set3 (b := w3.heap.size) ho (by rcases HLS.out with ⟨_, hlv⟩ | ⟨_, hlv⟩ <;> exact hlv.bytes) (by simp; omega) (.slice A4 d.l.length c4) (.int .i64 d.s) (.int .i64 d.a))
        have HB4 := Lib.hid (below_set3 HBp.out (b := w3.heap.size) hgw (.slice A4 d.l.length c4) (.int .i64 d.s) (.int .i64 d.a))
        have HO4 := Lib.hid (own_set3 (g := w3.heap.size) (by omega) (.slice A4 d.l.length c4) (.int .i64 d.s) (.int .i64 d.a) (own_below (HO1.out (.cells #[.bool true, .slice Ai ni ci] 58)) hb))
        clear hp hy ho hb p0 p1 p2 f0 f1 f2
        rcases HLS.out with ⟨he, hlv⟩ | ⟨he, hlv⟩
        · have HST := Lib.hid (show SRel w w3.heap.size n (.slice Av D.length cv) (.int .i64 (D.length : Int)) (.int .i64 ((k : Int) + 1)) _ (k + 1) A4 c4 d.l d.s d.a D D.length vs from ⟨hlt, rfl, rfl, hlv.more, HX4.out, HY4.out, HO4.out, HV.out, HB4.out⟩)
          rw [he]
          clear hlv he
          go_wp2
          go_roundw
          case rel => exact ⟨_, _, _, _, _, _, _, _, _, HST.out⟩
          case measure => simp [intOf]; omega
        · have HST := Lib.hid (show SRel w w3.heap.size n (.slice Av D.length cv) (.int .i64 (sy : Int)) (.int .i64 ((k : Int) + 1)) _ (k + 1) A4 c4 d.l d.s d.a D sy vs from ⟨hlt, rfl, rfl, hlv.more, HX4.out, HY4.out, HO4.out, HV.out, HB4.out⟩)
          rw [he]
          clear hlv he
          go_wp2
          go_roundw
          case rel => exact ⟨_, _, _, _, _, _, _, _, _, HST.out⟩
          case measure => simp [intOf]; omega
      | false =>
        have HK := Lib.hid (append_any Ad l.length cd l s a Ai ni ci r (wr.alloc (.cells #[.bool false, .slice Ai ni ci] 58)) (HY.out.alloc _) ((HBi.out.below HB.out (Nat.le_refl _)).alloc _))
        have HLS := Lib.hid (HLV.out.append (by omega) HBi.out.bytes (by rw [HNI.out]; exact hr60))
        generalize appendD l s a r = d at *
        obtain ⟨i0, hi, iz0, iz1, iz2⟩ := info_parts sl_info
        obtain ⟨⟨p0, p1, p2⟩, f0, f1, f2⟩ := HX.out
        go_wp2_with fail
        refine (HK.out).mono ?_
        intro e w4 hp
        obtain ⟨A4, c4, rfl, hy, ho, hb⟩ := hp.open_ (by rcases HLS.out with ⟨_, hlv⟩ | ⟨_, hlv⟩ <;> exact hlv.bytes)
        have hz := hb.size
        have HBp := Lib.hid ((HB.out.alloc hsr (.cells #[.bool false, .slice Ai ni ci] 58)).trans (hb.mono (by simp; omega)))
        obtain ⟨⟨q0, q1, q2⟩, g0, g1, g2⟩ := (HX.out.alloc (.cells #[.bool false, .slice Ai ni ci] 58)).next hb
        have HX4 := Lib.hid (Bx.write (w := w4) (b := w3.heap.size) ⟨⟨q0, q1, q2⟩, g0, g1, g2⟩ (.slice A4 d.l.length c4) (.int .i64 d.s) (.int .i64 d.a))
        have HY4 := Lib.hid (bytes_set3 (b := w3.heap.size) ho (by rcases HLS.out with ⟨_, hlv⟩ | ⟨_, hlv⟩ <;> exact hlv.bytes) (by simp; omega) (.slice A4 d.l.length c4) (.int .i64 d.s) (.int .i64 d.a))
        have HB4 := Lib.hid (below_set3 HBp.out (b := w3.heap.size) hgw (.slice A4 d.l.length c4) (.int .i64 d.s) (.int .i64 d.a))
        have HO4 := Lib.hid (own_set3 (g := w3.heap.size) (by omega) (.slice A4 d.l.length c4) (.int .i64 d.s) (.int .i64 d.a) (own_below (HO1.out (.cells #[.bool false, .slice Ai ni ci] 58)) hb))
        have HD4 := Lib.hid (own_set3 (g := w3.heap.size) (Nat.lt_succ_self _) (.slice A4 d.l.length c4) (.int .i64 d.s) (.int .i64 d.a) (own_mono (base' := w3.heap.size + 1) ho (by simp; omega)))
        have h14 : w4.cell? ⟨wr.heap.size, 1, none⟩ = some (.slice Ai ni ci) := (hb.cell (p := ⟨wr.heap.size, 1, none⟩) (by simp)).trans (by rw [World.cell?_alloc_at _ _ _ _ rfl]; rfl)
        have hn14 : wr.heap.size ≠ w3.heap.size := by omega
        have hn14' : w3.heap.size ≠ wr.heap.size := by omega
        have hzz : wr.heap.size + 1 ≤ w4.heap.size := by simpa using hz
        clear hp hy ho hb p0 p1 p2 f0 f1 f2
        rcases HLS.out with ⟨he, hlv⟩ | ⟨he, hlv⟩
        · have HLW := Lib.hid hlv
          have HAO := Lib.hid (HO4.out.alloc (.cells #[.slice Ai ni ci] 22))
          have hz4 : w4.heap.size = (((w4.setCell ⟨w3.heap.size, 0, none⟩ (.slice A4 d.l.length c4)).setCell ⟨w3.heap.size, 1, none⟩ (.int .i64 d.s)).setCell ⟨w3.heap.size, 2, none⟩ (.int .i64 d.a)).heap.size := (size_set3 _ _ _ _ _).symm
          have HZ4 := Lib.hid hz4
          have H1N := Lib.hid (one_new (((w4.setCell ⟨w3.heap.size, 0, none⟩ (.slice A4 d.l.length c4)).setCell ⟨w3.heap.size, 1, none⟩ (.int .i64 d.s)).setCell ⟨w3.heap.size, 2, none⟩ (.int .i64 d.a)) (.slice Ai ni ci) 22)
          rw [size_set3] at H1N
          rw [he]
          clear hlv he hz4
          go_wp2_with (at_builtin; refine wpList_append_own _ rfl (.tmp 76) (.tmp 79) 43 rfl (w3.heap.size + 1) 22 i0 (.slice none 0 0) 1 24 Try.underlying43 hi iz0 iz1 iz2 rfl (by decide) (.slice Av D.length cv) D.length vs rfl HAO.out ⟨w4.heap.size, 0, none⟩ 1 1 [.slice Ai ni ci] rfl rfl ?c1 ?c2 ?c3 ?c4 ?c5 ?_)
          case c1 => exact H1N.out
          case c2 => intro u hu; simp at hu; subst hu; rfl
          case c3 => unfold maxLen; omega
          case c4 => omega
          case c5 => simp; omega
          intro v' w5 hown5 hg5 _
          have hsz4 : w3.heap.size + 1 ≤ (((w4.setCell ⟨w3.heap.size, 0, none⟩ (.slice A4 d.l.length c4)).setCell ⟨w3.heap.size, 1, none⟩ (.int .i64 d.s)).setCell ⟨w3.heap.size, 2, none⟩ (.int .i64 d.a)).heap.size := by rw [size_set3]; omega
          have hb5 := ((Below.refl (w3.heap.size + 1) _).alloc hsz4 (.cells #[.slice Ai ni ci] 22)).grown hg5 (by rw [World.size_alloc]; omega) (fun k hk => (HAO.out.lt k hk).1)
          have HX5 := Lib.hid (HX4.out.below hb5 (by omega))
          have HD5 := Lib.hid (bytes_of_own ((HD4.out.alloc (.cells #[.slice Ai ni ci] 22)).kept hg5 (own_type_ne HD4.out HO4.out (by decide))) HLW.out.bytes)
          have HB5 := Lib.hid (HB4.out.trans (hb5.mono (by omega)))
          have hvl : (D ++ [r]).length = D.length + 1 := by simp
          have HST := Lib.hid (show SRel w w3.heap.size n v' (.int .i64 (sy : Int)) (.int .i64 ((k : Int) + 1)) w5 (k + 1) A4 c4 d.l d.s d.a (D ++ [r]) sy (vs ++ [.slice Ai ni ci]) from ⟨hlt, rfl, rfl, HLW.out, HX5.out, HD5.out, by rw [hvl]; exact hown5, HV.out.snoc HBi.out, HB5.out⟩)
          clear hown5 hg5 hb5 hvl hsz4
          go_wp2
          go_roundw
          case rel => exact ⟨_, _, _, _, _, _, _, _, _, HST.out⟩
          case measure => simp [intOf]; omega
        · have HST := Lib.hid (show SRel w w3.heap.size n (.slice Av D.length cv) (.int .i64 (sy : Int)) (.int .i64 ((k : Int) + 1)) _ (k + 1) A4 c4 d.l d.s d.a D sy vs from ⟨hlt, rfl, rfl, hlv, HX4.out, HY4.out, HO4.out, HV.out, HB4.out⟩)
          rw [he]
          clear hlv he
          go_wp2
          go_roundw
          case rel => exact ⟨_, _, _, _, _, _, _, _, _, HST.out⟩
          case measure => simp [intOf]; omega
    · obtain rfl : k = n := by omega
      have hval := HLV.out.valid h2
      have hss := valid_s hval
      have hs0 := hss.1
      have hs1 := hss.2
      have HVV := Lib.hid hval
      clear hss hval hlt hk
      have hcap := HO.out
      have hown_c := own_cap HO.out
      have hlc := HY.out.le
      have hlcc := HY.out.cap
      clear hcap
      obtain ⟨lf, hlf⟩ : ∃ lf : Nat, (l.length : Int) - s = (lf : Int) := ⟨((l.length : Int) - s).toNat, by omega⟩
      have HLF := Lib.hid hlf
      have hlfb : lf ≤ 1020 := by omega
      have e1 : decide ((l.length : Int) - s < 0) = false := decide_eq_false (by omega)
      have e2 : decide ((l.length : Int) < s) = false := decide_eq_false (by omega)
      have e3 : decide ((20000 : Int) < (l.length : Int)) = false := decide_eq_false (by omega)
      obtain ⟨⟨p0, p1, p2⟩, f0, f1, f2⟩ := HX.out
      clear hlf
      go_wp2_with fail
      refine (valid_any _ _ _ _ _ _ _ HY.out).mono ?_
      rintro e w4 ⟨rfl, hb⟩
      rw [HVV.out, HLF.out]
      have HX4 := Lib.hid (HX.out.next hb)
      have HY4 := Lib.hid (HY.out.below hb (Nat.le_refl _))
      have HO4 := Lib.hid (own_below HO.out hb)
      have HB4 := Lib.hid (HB.out.trans (hb.mono hsr))
      have hz4 : w3.heap.size < w4.heap.size := Nat.lt_of_lt_of_le hgx hb.size
      have hs4 := HB4.out.size
      clear hb p0 p1 p2 f0 f1 f2 e1 e2 e3
      obtain ⟨⟨p0, p1, p2⟩, f0, f1, f2⟩ := HX4.out
      obtain ⟨K, hK, hK2⟩ : ∃ K : Nat, (kp).tmod ((lf : Int) + 1) = (K : Int) ∧ K ≤ lf := by
        have h1 := Int.tmod_nonneg ((lf : Int) + 1) hkp.1
        have h2 := Int.tmod_lt_of_pos kp (show (0 : Int) < (lf : Int) + 1 by omega)
        exact ⟨(kp.tmod ((lf : Int) + 1)).toNat, by omega, by omega⟩
      have g1 : IntKind.i64.wrap ((lf : Int) + 1) = (lf : Int) + 1 := IntWalk.i64_in _ (by omega)
      have g2 : ¬ ((lf : Int) + 1) = 0 := by omega
      have g3 : (((lf : Int) + 1) == 0) = false := by rw [beq_eq_false_iff_ne]; omega
      have g4 : ((((lf : Int) + 1)) == -1) = false := by rw [beq_eq_false_iff_ne]; omega
      have g0 : IntKind.i64.wrap kp = kp := IntWalk.i64_in _ (by omega)
      obtain ⟨hde, j, hsj, hjD, hop⟩ := HLV.out.crash h2 (K : Int) (by omega) (by have := HLF.out; omega)
      have HOP := Lib.hid hop
      have hDB := crashD_bytes (s := s) (a := a) (k := (K : Int)) HY4.out.bytes
      have HWC := Lib.hid (show ∀ W', W' = w4.drew → Calls Try.prog 23 #[.agg #[.slice Ad l.length cd, .int .i64 s, .int .i64 a], .int .i64 (K : Int)] W' (fun e w' => ∃ A5 c5, e = .returned (.tuple #[.agg #[.slice A5 (crashD l s a (K : Int)).l.length c5, .int .i64 (crashD l s a (K : Int)).s, .int .i64 (crashD l s a (K : Int)).a], .int .i64 0]) ∧ w'.ownsRow w4.heap.size 5 1 (.slice A5 (crashD l s a (K : Int)).l.length c5) (crashD l s a (K : Int)).l.length ((crashD l s a (K : Int)).l.map (Value.int .u8)) ∧ Below w4.heap.size w4 w') from by
        rintro _ rfl
        refine (crash_any Ad l.length cd l s a (K : Int) w4.drew (HY4.out.below (Below.refl _ _).drew (Nat.le_refl _))).mono ?_
        intro e w' hp
        obtain ⟨A5, c5, rfl, ho, hb⟩ := hp
        rw [hde]
        exact ⟨A5, c5, rfl, ho, (Below.refl w4.heap.size w4).drew.trans hb⟩)
      generalize crashD l s a (K : Int) = d at *
      have HKK := Lib.hid hK2
      clear hop hde
      go_wp2_with fail
      go_region_with (go_at_call 23; refine (HWC.out _ rfl).mono ?_; rintro e w5 ⟨A5, c5, rfl, ho, hb⟩; obtain ⟨⟨q0, q1, q2⟩, k0, k1, k2⟩ := HX4.out.next hb; have HD5 := Lib.hid ho; have HO5 := Lib.hid (own_below HO4.out hb); have HX5 := Lib.hid (HX4.out.next hb); have HB5 := Lib.hid (HB4.out.trans (hb.mono hs4)); have hz5 := hb.size; clear ho hb)
      have HY6 := Lib.hid (bytes_set3 (b := w3.heap.size) HD5.out hDB hz4 (.slice A5 d.l.length c5) (.int .i64 d.s) (.int .i64 d.a))
      have HX6 := Lib.hid (Bx.write (w := w5) (b := w3.heap.size) ⟨⟨q0, q1, q2⟩, k0, k1, k2⟩ (.slice A5 d.l.length c5) (.int .i64 d.s) (.int .i64 d.a))
      have HO6 := Lib.hid (own_set3 (g := w3.heap.size) (Nat.lt_succ_self _) (.slice A5 d.l.length c5) (.int .i64 d.s) (.int .i64 d.a) HO5.out)
      have HB6 := Lib.hid (below_set3 HB5.out (b := w3.heap.size) hgw (.slice A5 d.l.length c5) (.int .i64 d.s) (.int .i64 d.a))
      clear p0 p1 p2 f0 f1 f2 hK g0 g1 g2 g3 g4
      go_wp2_with fail
      generalize (((w5.setCell ⟨w3.heap.size, 0, none⟩ (.slice A5 d.l.length c5)).setCell ⟨w3.heap.size, 1, none⟩ (.int .i64 d.s)).setCell ⟨w3.heap.size, 2, none⟩ (.int .i64 d.a)) = W6 at *
      clear q0 q1 q2 k0 k1 k2
      have hgx6 := HX6.out.lt
      have hs6 := HB6.out.size
      have hjlen : (D.take j).length = j := by simp; omega
      have HLV' := Lib.hid (live_last (D := D.take j) (r := b) (s := ((total (D.take j) : Nat) : Int)) (HLV.out.good.take j) (fun r hr => HLV.out.short r (List.mem_of_mem_take hr)) (by rw [hjlen]; omega) (by rw [HLL.out]; omega) HYL.out.bytes rfl)
      have HJL := Lib.hid hjlen
      have HGB := Lib.hid (show ∀ r ∈ D.take j, AllBytes r from fun r hr => (HLV.out.good r (List.mem_of_mem_take hr)).1)
      have HFB := Lib.hid ((HLV.out.good.take j).bytes (fun r hr => ((HLV.out.good.take j) r hr).2))
      have HFB2 := Lib.hid (show AllBytes (flat (D.take j ++ [b])) by rw [flat_append, flat_one]; exact HFB.out.append (frameL_bytes HYL.out.bytes (by rw [HLL.out]; omega)))
      have HDV := Lib.hid (show decide ((j : Int) < (sy : Int)) = false from decide_eq_false (by omega))
      have HTB := Lib.hid (show total (D.take j ++ [b]) = total (D.take j) + (8 + n') by rw [total_append]; simp [total, HLL.out])
      have hTDb : total (D.take j) ≤ 1020 := by
        have := total_60 (D.take j) (fun r hr => HLV.out.short r (List.mem_of_mem_take hr))
        omega
      clear hjlen
      generalize hF : flat (D.take j) = F at *
      generalize hF2 : flat (D.take j ++ [b]) = F2 at *
      generalize hTD : total (D.take j) = TD at *
      have HFL := Lib.hid (show F.length = TD by rw [← hF, flat_length, hTD])
      have HFL2 := Lib.hid (show F2.length = TD + (8 + n') by rw [← hF2, flat_length, HTB.out])
      clear hF hF2 hTD
      obtain ⟨⟨p0, p1, p2⟩, f0, f1, f2⟩ := HX6.out
      refine (open_any _ _ _ _ _ _ _ HY6.out).mono ?_
      intro e w7 hp
      obtain ⟨A7, c7, rfl, ho, hb⟩ := DPost.open' hp (HOP.out) (n := TD) (HFL.out)
      have hz := hb.size
      have HBp := Lib.hid (HB6.out.trans (hb.mono (hs6)))
      obtain ⟨⟨q0, q1, q2⟩, g0, g1, g2⟩ := (HX6.out).next hb
      have HX7 := Lib.hid (Bx.write (w := w7) (b := w3.heap.size) ⟨⟨q0, q1, q2⟩, g0, g1, g2⟩ (.slice A7 TD c7) (.int .i64 (TD : Int)) (.int .i64 (-1)))
      have HY7 := Lib.hid (bytes_set3 (b := w3.heap.size) ho (HFB.out) (by omega) (.slice A7 TD c7) (.int .i64 (TD : Int)) (.int .i64 (-1)))
      have HB7 := Lib.hid (below_set3 HBp.out (b := w3.heap.size) hgw (.slice A7 TD c7) (.int .i64 (TD : Int)) (.int .i64 (-1)))
      have HO7 := Lib.hid (own_set3 (g := w3.heap.size) (Nat.lt_succ_self _) (.slice A7 TD c7) (.int .i64 (TD : Int)) (.int .i64 (-1)) (own_below HO6.out hb))
      clear hp ho hb p0 p1 p2 f0 f1 f2
      go_wp2_with fail
      generalize (((w7.setCell ⟨w3.heap.size, 0, none⟩ (.slice A7 TD c7)).setCell ⟨w3.heap.size, 1, none⟩ (.int .i64 (TD : Int))).setCell ⟨w3.heap.size, 2, none⟩ (.int .i64 (-1))) = W7 at *
      clear q0 q1 q2 g0 g1 g2
      have HRC := Lib.hid (records_yes A7 TD c7 F (TD : Int) (-1) W7 HY7.out HLV'.out.2.1)
      obtain ⟨⟨p0, p1, p2⟩, f0, f1, f2⟩ := HX7.out
      have hgx7 := HX7.out.lt
      have hs7 := HB7.out.size
      refine HRC.out.mono ?_
      intro e w8 hp
      obtain ⟨A8, c8, vs8, rfl, ho8, hr8, hb⟩ := RecsPost.open' hp HLV'.out.1 (n := j) HJL.out
      have HRG := Lib.hid (rows_of_own ho8 hr8 HJL.out HGB.out)
      have HG8 := Lib.hid (own_mono (base' := w3.heap.size + 1) ho8 hgx7)
      have HR8 := Lib.hid (Recs.mono (B' := w3.heap.size + 1) hgx7 hr8)
      have HX8 := Lib.hid (HX7.out.next hb)
      have HY8 := Lib.hid (HY7.out.below hb (Nat.le_refl _))
      have HB8 := Lib.hid (HB7.out.trans (hb.mono hs7))
      have HO8 := Lib.hid (own_below HO7.out hb)
      have HDN := Lib.hid ((rows_of_vals HO8.out (HV.out.below HB8.out (Nat.le_refl _))).upto (m := j) (by omega))
      have HEQ := Lib.hid (eqfunc_any A8 Av j c8 j cv _ _ w8 HRG.out HDN.out)
      rw [decide_eq_true rfl] at HEQ
      have hgx8 := HX8.out.lt
      have hs8 := HB8.out.size
      clear hp ho8 hr8 hb p0 p1 p2 f0 f1 f2 HRC
      have e1 := HDV.out
      have e2 : decide ((D.length : Int) < (j : Int)) = false := decide_eq_false (by omega)
      have e3 : (j : Int) ≤ (cv : Int) := by omega
      obtain ⟨⟨p0, p1, p2⟩, f0, f1, f2⟩ := HX8.out
      go_wp2_with fail
      refine HEQ.out.mono ?_
      rintro e w9 ⟨rfl, rfl⟩
      clear e1 e2 e3
      go_wp2_with fail
      refine (append_any A7 TD c7 F (TD : Int) (-1) A' n' c' b w8 HY8.out (HYL.out.below HB8.out (Nat.le_refl _))).mono ?_
      intro e w9 hp
      obtain ⟨A9, c9, rfl, ho, hb⟩ := DPost.open' hp (HLV'.out.2.2.1) (n := (TD + (8 + n'))) (HFL2.out)
      have hz := hb.size
      have HBp := Lib.hid (HB8.out.trans (hb.mono (hs8)))
      obtain ⟨⟨q0, q1, q2⟩, g0, g1, g2⟩ := (HX8.out).next hb
      have HX9 := Lib.hid (Bx.write (w := w9) (b := w3.heap.size) ⟨⟨q0, q1, q2⟩, g0, g1, g2⟩ (.slice A9 (TD + (8 + n')) c9) (.int .i64 (TD : Int)) (.int .i64 (-1)))
      have HY9 := Lib.hid (bytes_set3 (b := w3.heap.size) ho (HFB2.out) (by omega) (.slice A9 (TD + (8 + n')) c9) (.int .i64 (TD : Int)) (.int .i64 (-1)))
      have HB9 := Lib.hid (below_set3 HBp.out (b := w3.heap.size) hgw (.slice A9 (TD + (8 + n')) c9) (.int .i64 (TD : Int)) (.int .i64 (-1)))
      have HG9 := Lib.hid (own_set3 (g := w3.heap.size) (Nat.lt_succ_self _) (.slice A9 (TD + (8 + n')) c9) (.int .i64 (TD : Int)) (.int .i64 (-1)) (own_below HG8.out hb))
      have HR9 := Lib.hid (Recs.set3 (g := w3.heap.size) (Nat.lt_succ_self _) (.slice A9 (TD + (8 + n')) c9) (.int .i64 (TD : Int)) (.int .i64 (-1)) (Recs.below hb HR8.out))
      clear hp ho hb p0 p1 p2 f0 f1 f2
      go_wp2_with fail
      generalize (((w9.setCell ⟨w3.heap.size, 0, none⟩ (.slice A9 (TD + (8 + n')) c9)).setCell ⟨w3.heap.size, 1, none⟩ (.int .i64 (TD : Int))).setCell ⟨w3.heap.size, 2, none⟩ (.int .i64 (-1))) = W9 at *
      clear q0 q1 q2 g0 g1 g2
      obtain ⟨⟨p0, p1, p2⟩, f0, f1, f2⟩ := HX9.out
      have hgx9 := HX9.out.lt
      have hs9 := HB9.out.size
      refine (sync_any A9 (TD + (8 + n')) c9 F2 (TD : Int) (-1) W9 HY9.out).mono ?_
      intro e w10 hp
      obtain ⟨A10, c10, rfl, ho, hb⟩ := DPost.open' hp (by have := HLV'.out.2.2.2.1; rw [HTB.out] at this; simpa using this) (n := (TD + (8 + n'))) (HFL2.out)
      have hz := hb.size
      have HBp := Lib.hid (HB9.out.trans (hb.mono (hs9)))
      obtain ⟨⟨q0, q1, q2⟩, g0, g1, g2⟩ := (HX9.out).next hb
      have HX10 := Lib.hid (Bx.write (w := w10) (b := w3.heap.size) ⟨⟨q0, q1, q2⟩, g0, g1, g2⟩ (.slice A10 (TD + (8 + n')) c10) (.int .i64 ((TD : Int) + (8 + (n' : Int)))) (.int .i64 (-1)))
      have HY10 := Lib.hid (bytes_set3 (b := w3.heap.size) ho (HFB2.out) (by omega) (.slice A10 (TD + (8 + n')) c10) (.int .i64 ((TD : Int) + (8 + (n' : Int)))) (.int .i64 (-1)))
      have HB10 := Lib.hid (below_set3 HBp.out (b := w3.heap.size) hgw (.slice A10 (TD + (8 + n')) c10) (.int .i64 ((TD : Int) + (8 + (n' : Int)))) (.int .i64 (-1)))
      have HG10 := Lib.hid (own_set3 (g := w3.heap.size) (Nat.lt_succ_self _) (.slice A10 (TD + (8 + n')) c10) (.int .i64 ((TD : Int) + (8 + (n' : Int)))) (.int .i64 (-1)) (own_below HG9.out hb))
      have HR10 := Lib.hid (Recs.set3 (g := w3.heap.size) (Nat.lt_succ_self _) (.slice A10 (TD + (8 + n')) c10) (.int .i64 ((TD : Int) + (8 + (n' : Int)))) (.int .i64 (-1)) (Recs.below hb HR9.out))
      clear hp ho hb p0 p1 p2 f0 f1 f2
      go_wp2_with fail
      generalize (((w10.setCell ⟨w3.heap.size, 0, none⟩ (.slice A10 (TD + (8 + n')) c10)).setCell ⟨w3.heap.size, 1, none⟩ (.int .i64 ((TD : Int) + (8 + (n' : Int))))).setCell ⟨w3.heap.size, 2, none⟩ (.int .i64 (-1))) = W10 at *
      clear q0 q1 q2 g0 g1 g2
      have HRC := Lib.hid (records_yes A10 (TD + (8 + n')) c10 F2 ((TD + (8 + n') : Nat) : Int) (-1) W10 HY10.out (by have := HLV'.out.2.2.2.2.1; rwa [HTB.out] at this))
      have hgx10 := HX10.out.lt
      have hs10 := HB10.out.size
      simp only [Int.natCast_add, Int.cast_ofNat_Int] at HRC
      refine HRC.out.mono ?_
      intro e w11 hp
      obtain ⟨A11, c11, vs11, rfl, ho, hr, hb⟩ := RecsPost.open' hp HLV'.out.2.2.2.2.2 (n := j + 1) (by rw [List.length_append, HJL.out]; rfl)
      have HRA := Lib.hid (rows_of_own ho hr (by rw [List.length_append, HJL.out]; rfl) (by
        intro r hr
        rcases List.mem_append.1 hr with hr | hr
        · exact HGB.out r hr
        · simp at hr; subst hr; exact HYL.out.bytes))
      have HG11 := Lib.hid (own_below HG10.out hb)
      have HV11 := Lib.hid (ValsIn.of_recs (Recs.below hb HR10.out) HGB.out)
      have HB11 := Lib.hid (HB10.out.trans (hb.mono hs10))
      have hs11 := HB11.out.size
      clear hp ho hr hb HRC
      have hjb : j ≤ 14 := by omega
      have HCL := Lib.hid (clone2_any _ A8 j c8 vs8 w11 HG11.out HV11.out.one (by omega))
      obtain ⟨i0, hi, iz0, iz1, iz2⟩ := info_parts sl_info
      go_wp2_with fail
      refine HCL.out.mono ?_
      rintro e w12 ⟨A12, c12, rfl, ho, hb⟩
      have HB12 := Lib.hid (HB11.out.trans (hb.mono hs11))
      have HB12b := Lib.hid hb
      have hs12 := HB12.out.size
      have HRA12 := Lib.hid (HRA.out.below hb (Nat.le_refl _))
      have HV12 := Lib.hid (HV11.out.below hb (Nat.le_refl _))
      have HO12 := Lib.hid (ho.alloc (.cells #[.slice A' n' c'] 22))
      have hz12 := hb.size
      clear ho hb HCL
      have HRD := Lib.hid (reads_one w12 (.slice A' n' c') 22)
      go_wp2_with (at_builtin; refine wpList_append_g _ rfl (.tmp 186) (.tmp 188) 43 rfl w11.heap.size 22 i0 (.slice none 0 0) 1 24 Try.underlying43 hi iz0 iz1 iz2 rfl (by decide) (.slice A12 j c12) j vs8 rfl HO12.out (w12.heap.size + 1) (some ⟨w12.heap.size, 0, none⟩) 1 1 [.slice A' n' c'] rfl HRD.out ?c1 ?c2 ?c3 ?c4 ?_)
      case c1 => intro u hu; simp at hu; subst hu; rfl
      case c2 => unfold maxLen; omega
      case c3 => omega
      case c4 => simp; omega
      intro v' w13 hown hg _
      have hb13 : Below w11.heap.size w12 w13 := ((Below.refl _ _).alloc hz12 _).grown hg (by simp; omega) (fun k hk => (HO12.out.lt k hk).1)
      obtain ⟨Av', cv', rfl⟩ := own_slice hown
      have HB13 := Lib.hid (HB12.out.trans (hb13.mono hs11))
      have hal := (Below.refl w12.heap.size w12).alloc (Nat.le_refl _) (.cells #[.slice A' n' c'] 22)
      have HRA13 := Lib.hid (HRA.out.below ((HB12b.out).trans hb13) (Nat.le_refl _))
      have HV13 := Lib.hid ((HV11.out.below ((HB12b.out).trans hb13) (Nat.le_refl _)).snoc (HYL.out.below HB13.out (Nat.le_refl _)))
      have HIT := Lib.hid (rows_of_vals hown HV13.out)
      have HEQ := Lib.hid (eqfunc_any A11 Av' (j + 1) c11 (j + 1) cv' _ _ w13 HRA13.out HIT.out)
      rw [decide_eq_true rfl] at HEQ
      have HF := Lib.hid (show SamePost w true (.returned (.bool true)) w13 from ⟨rfl, HB13.out⟩)
      clear hown hg hb13 hal
      go_wp2_with fail
      refine HEQ.out.mono ?_
      rintro e w14 ⟨rfl, rfl⟩
      go_wp2
      go_ret
      exact HF.out

theorem surv_any (x : Int) (A : Option Addr) (n c : Nat) (ac : List (Bool × List Int)) (kp : Int) (A' : Option Addr) (n' c' : Nat) (b : List Int) (w : World) (h : ActsIn w A n ac) (h' : Bytes w A' n' c' b) (hkp : 0 ≤ kp ∧ kp < 65536) :
    Calls Try.prog 8 #[.int .i64 x, .slice A n c, .int .u16 kp, .slice A' n' c'] w (SamePost w true) := by
  by_cases hs : x < -1 ∨ 1048576 < x ∨ 14 < n ∨ 60 < n' ∨ tooLongA ac = true
  · exact surv_1 x A n c ac kp A' n' c' b w h h' hs
  · have hl : tooLongA ac = false := by
      cases ht : tooLongA ac with
      | false => rfl
      | true => exact absurd (Or.inr (Or.inr (Or.inr (Or.inr ht)))) hs
    exact surv_2 x A n c ac kp A' n' c' b w h h' hkp (by omega) (by omega) (by omega) hl
end Go.Proofs.Ytioedljihlfcaaa
