/-
  ReduceOrder's walk, first part: slices of solutions cloned, joined, reversed.
-/
import Derived.Test.YtmididlfnajhiaaGreatDoorE30
import Derived.Lib.AppendZeros
namespace Go.Proofs.YtmididlfnajhiaaGreatDoor
open Go.RowKit
open Ev (Glob Gives)
theorem block_of_add (a : Addr) (n : Nat) : (a.add n).block = a.block := by unfold Addr.add; split <;> rfl
theorem add_of_add (a : Addr) (i j : Nat) : (a.add i).add j = a.add (i + j) := by
  unfold Addr.add
  by_cases hi : i = 0 <;> by_cases hj : j = 0 <;> simp [hi, hj, Nat.add_assoc]

def Reads (w : World) (B size : Nat) (A : Option Addr) (n : Nat) (xs : List Value) : Prop :=
  xs.length = n * size ∧ (0 < n → ∃ ad, A = some ad ∧ ad.block < B ∧ ∀ j u, xs[j]? = some u → w.cell? (ad.add j) = some u)

section
variable {w w' : World} {B B' size n : Nat} {A : Option Addr} {xs : List Value}
theorem Reads.none_ : Reads w B size A 0 [] := ⟨by simp, fun h => absurd h (by omega)⟩
theorem Reads.at_ {k : Nat} (h : Reads w B 1 A n xs) (hk : k < n) : ∃ ad u, A = some ad ∧ ad.block < B ∧ xs[k]? = some u ∧ w.cell? (ad.add k) = some u := by
  obtain ⟨ad, e, hb, hc⟩ := h.2 (by omega)
  have hl : k < xs.length := by have := h.1; omega
  exact ⟨ad, xs[k], e, hb, List.getElem?_eq_getElem hl, hc k _ (List.getElem?_eq_getElem hl)⟩
theorem Reads.keep (h : Reads w B size A n xs) (hk : ∀ p : Addr, p.block < B → w'.cell? p = w.cell? p) : Reads w' B size A n xs :=
  ⟨h.1, fun hn => by
    obtain ⟨ad, e, hb, hc⟩ := h.2 hn
    exact ⟨ad, e, hb, fun j u hu => (hk _ (by rw [block_of_add]; exact hb)).trans (hc j u hu)⟩⟩
theorem Reads.more (h : Reads w B size A n xs) (hB : B ≤ B') : Reads w B' size A n xs :=
  ⟨h.1, fun hn => by
    obtain ⟨ad, e, hb, hc⟩ := h.2 hn
    exact ⟨ad, e, by omega, hc⟩⟩
theorem Reads.below (h : Reads w B size A n xs) (hb : Below B w w') : Reads w' B size A n xs := h.keep fun _ hp => hb.cell hp
theorem Reads.drew (h : Reads w B size A n xs) : Reads w.drew B size A n xs := h
theorem Reads.drewN (h : Reads w B size A n xs) (k : Nat) : Reads (w.drewN k) B size A n xs := h
theorem Reads.alloc (h : Reads w B size A n xs) (hB : B ≤ w.heap.size) (o : Obj) : Reads (w.alloc o) B size A n xs := h.keep fun p hp => World.cell?_alloc_lt w o p (by omega)
theorem Reads.setCell (h : Reads w B size A n xs) {p : Addr} (hB : B ≤ p.block) (u : Value) : Reads (w.setCell p u) B size A n xs :=
  h.keep fun q hq => World.cell?_setCell_other w p q u (fun e => by subst e; omega)
theorem Reads.grown (h : Reads w B size A n xs) {row : Option Nat} (hg : w.grownBy w' row) (hB : B ≤ w.heap.size) (hr : ∀ g, row = some g → B ≤ g) : Reads w' B size A n xs :=
  h.keep fun p hp => World.cell?_of_block (hg.block p.block (by omega) (fun e => by have := hr _ e.symm; omega))
theorem Reads.cut (h : Reads w B size A n xs) {k cap : Nat} (hk : k ≤ n) (hc : n ≤ cap) :
    Reads w B size (if cap = k then A else A.map (·.add (k * size))) (n - k) (xs.drop (k * size)) := by
  refine ⟨by rw [List.length_drop, h.1, Nat.sub_mul], fun hn => ?_⟩
  obtain ⟨ad, rfl, hb, hcell⟩ := h.2 (by omega)
  rw [if_neg (by omega)]
  refine ⟨ad.add (k * size), rfl, by rw [block_of_add]; exact hb, fun j u hu => ?_⟩
  rw [add_of_add]
  exact hcell _ u (by rw [← hu, List.getElem?_drop])
theorem Reads.of_own {base : Nat} {e : TypeId} {c : Nat} (h : w.ownsRow base e size (.slice A n c) n xs) : Reads w w.heap.size size A n xs := by
  refine ⟨h.1, fun hn => ?_⟩
  obtain ⟨g, cap, hv, _, hlt⟩ := h.form hn
  have hA : A = some ⟨g, 0, none⟩ := by injection hv
  subst hA
  exact ⟨_, rfl, hlt, h.cells (g := g) rfl⟩
end
section
variable {P : Program} (w : World)

theorem run_append_of_nil (base : Nat) (t ty e : TypeId) (i : TypeInfo) (size : Nat) (ht : P.underlying t = some (.slice e)) (hi : P.info? e = some i)
    (v : Value) (n : Nat) (xs : List Value) (hown : w.ownsRow base e size v n xs) (c : Nat) : (Builtin.append_ #[t, t] ty #[v, .slice none 0 c]).run P w = .ok v w := by
  rcases hown.2 with ⟨rfl, rfl⟩ | ⟨g, cap, cur, rfl, _, _, hnc, _⟩
  · simp [Builtin.append_, run_underlying ht, sizeOf, typeInfo, hi, Builtin.lenOf, Builtin.firstCells]
  · simp [Builtin.append_, run_underlying ht, sizeOf, typeInfo, hi, Builtin.lenOf, Builtin.firstCells, hnc, storeCells]

theorem run_append_any (base : Nat) (t ty e : TypeId) (i : TypeInfo) (z : Value) (size bytes : Nat) (ht : P.underlying t = some (.slice e)) (hi : P.info? e = some i) (hz : i.zero = some z)
    (hsize : i.size = size) (hby : i.bytes = bytes) (hzs : z.cells.size = size) (hsz : 0 < size)
    (v : Value) (n : Nat) (xs : List Value) (hown : w.ownsRow base e size v n xs)
    (B : Nat) (A : Option Addr) (m c : Nat) (news : List Value) (hr : Reads w B size A m news) (h1 : ∀ u ∈ news, u.oneCell' = true)
    (h63 : n + m ≤ maxLen) (hbytes : (n + m) * bytes ≤ 140737488355328) (hbase : base ≤ w.heap.size) :
    ∃ v' w', (Builtin.append_ #[t, t] ty #[v, .slice A m c]).run P w = .ok v' w' ∧ w'.ownsRow base e size v' (n + m) (xs ++ news) ∧ w.grownBy w' v.ownBlock ∧
      (v'.ownBlock = v.ownBlock ∨ v'.ownBlock = some w.heap.size) := by
  rcases A with _ | ad
  · have hm : m = 0 := by
      rcases Nat.eq_zero_or_pos m with h0 | h0
      · exact h0
      · obtain ⟨ad, h, _⟩ := hr.2 h0
        cases h
    subst hm
    have hn : news = [] := List.eq_nil_of_length_eq_zero (by simpa using hr.1)
    subst hn
    exact ⟨v, w, run_append_of_nil w base t ty e i size ht hi v n xs hown c, by simpa using hown, World.grownBy.refl w _, .inl rfl⟩
  · have hcells : ∀ j u, news[j]? = some u → w.cell? (ad.add j) = some u := by
      intro j u hu
      rcases Nat.eq_zero_or_pos m with h0 | h0
      · subst h0
        have hn : news = [] := List.eq_nil_of_length_eq_zero (by simpa using hr.1)
        subst hn
        simp at hu
      · obtain ⟨ad', h, _, hc⟩ := hr.2 h0
        injection h with h
        subst h
        exact hc j u hu
    obtain ⟨v', w', hrun, h2, h3, _, h5⟩ := run_append_own_at (P := P) w base t ty e i z size bytes ht hi hz hsize hby hzs hsz v n xs hown ad m c news hr.1 hcells h1 h63 hbytes hbase
    exact ⟨v', w', hrun, h2, h3, h5⟩

theorem wp_append_any {o : Oper} {a : Act} {K : Act → World → Prop} {Q : Exit → Act → World → Prop} (s x : Operand) (t : TypeId)
    (ho : o.op = .call { callee := .builtin .append, args := #[s, x], argTypes := #[t, t] })
    (base : Nat) (e : TypeId) (i : TypeInfo) (z : Value) (size bytes : Nat) (ht : P.underlying t = some (.slice e)) (hi : P.info? e = some i) (hz : i.zero = some z)
    (hsize : i.size = size) (hby : i.bytes = bytes) (hzs : z.cells.size = size) (hsz : 0 < size)
    (v : Value) (n : Nat) (xs : List Value) (hs : a.eval s = v) (hown : w.ownsRow base e size v n xs)
    (B : Nat) (A : Option Addr) (m c : Nat) (news : List Value) (hx : a.eval x = .slice A m c) (hr : Reads w B size A m news) (h1 : ∀ u ∈ news, u.oneCell' = true)
    (h63 : n + m ≤ maxLen) (hbytes : (n + m) * bytes ≤ 140737488355328) (hbase : base ≤ w.heap.size)
    (h : ∀ v' w', w'.ownsRow base e size v' (n + m) (xs ++ news) → w.grownBy w' v.ownBlock → (v'.ownBlock = v.ownBlock ∨ v'.ownBlock = some w.heap.size) → K (a.put o.dst v') w') : o.wp P a w K Q := by
  obtain ⟨v', w', hrun, h2, h3, h4⟩ := run_append_any (P := P) w base t o.type e i z size bytes ht hi hz hsize hby hzs hsz v n xs hown B A m c news hr h1 h63 hbytes hbase
  unfold Oper.wp execOp
  simp only [ho, resolve, invoke, builtin, Sem.run_bind, Sem.run_pure, Result.andThen_ok, List.map_toArray, List.map_cons, List.map_nil, hs, hx, hrun]
  exact h v' w' h2 h3 h4

theorem wpList_append_any {ops : Array Oper} {rest : List Oper} {o : Oper} {a : Act} {Q : Exit → Act → World → Prop} (hgd : o.guard = none) (s x : Operand) (t : TypeId)
    (ho : o.op = .call { callee := .builtin .append, args := #[s, x], argTypes := #[t, t] })
    (base : Nat) (e : TypeId) (i : TypeInfo) (z : Value) (size bytes : Nat) (ht : P.underlying t = some (.slice e)) (hi : P.info? e = some i) (hz : i.zero = some z)
    (hsize : i.size = size) (hby : i.bytes = bytes) (hzs : z.cells.size = size) (hsz : 0 < size)
    (v : Value) (n : Nat) (xs : List Value) (hs : a.eval s = v) (hown : w.ownsRow base e size v n xs)
    (B : Nat) (A : Option Addr) (m c : Nat) (news : List Value) (hx : a.eval x = .slice A m c) (hr : Reads w B size A m news) (h1 : ∀ u ∈ news, u.oneCell' = true)
    (h63 : n + m ≤ maxLen) (hbytes : (n + m) * bytes ≤ 140737488355328) (hbase : base ≤ w.heap.size)
    (h : ∀ v' w', w'.ownsRow base e size v' (n + m) (xs ++ news) → w.grownBy w' v.ownBlock → (v'.ownBlock = v.ownBlock ∨ v'.ownBlock = some w.heap.size) → wpList P ops Q rest (a.put o.dst v') w') : wpList P ops Q (o :: rest) a w :=
  wpList_plain hgd fun _ hK => wp_append_any w s x t ho base e i z size bytes ht hi hz hsize hby hzs hsz v n xs hs hown B A m c news hx hr h1 h63 hbytes hbase fun v' w' h2 h3 h4 => hK _ _ (h v' w' h2 h3 h4)

theorem step_append_any {ops : Array Oper} {o : Oper} {a : Act} {K : Act → World → Prop} {Q : Exit → Act → World → Prop} {E : Prop} (hgd : o.guard = none) (s x : Operand) (t : TypeId)
    (ho : o.op = .call { callee := .builtin .append, args := #[s, x], argTypes := #[t, t] })
    (base : Nat) (e : TypeId) (i : TypeInfo) (z : Value) (size bytes : Nat) (ht : P.underlying t = some (.slice e)) (hi : P.info? e = some i) (hz : i.zero = some z)
    (hsize : i.size = size) (hby : i.bytes = bytes) (hzs : z.cells.size = size) (hsz : 0 < size)
    (v : Value) (n : Nat) (xs : List Value) (hs : a.eval s = v) (hown : w.ownsRow base e size v n xs)
    (B : Nat) (A : Option Addr) (m c : Nat) (news : List Value) (hx : a.eval x = .slice A m c) (hr : Reads w B size A m news) (h1 : ∀ u ∈ news, u.oneCell' = true)
    (h63 : n + m ≤ maxLen) (hbytes : (n + m) * bytes ≤ 140737488355328) (hbase : base ≤ w.heap.size)
    (h : ∀ v' w', w'.ownsRow base e size v' (n + m) (xs ++ news) → w.grownBy w' v.ownBlock → (v'.ownBlock = v.ownBlock ∨ v'.ownBlock = some w.heap.size) → K (a.put o.dst v') w') :
    if Region.wanted o (yielded ops a.tmps) = true then Oper.wp P o a w K Q else E := by
  have hw : Region.wanted o (yielded ops a.tmps) = true := by simp [Region.wanted, hgd]
  rw [if_pos hw]
  exact wp_append_any w s x t ho base e i z size bytes ht hi hz hsize hby hzs hsz v n xs hs hown B A m c news hx hr h1 h63 hbytes hbase h
end


theorem wpList_append_run {P : Program} {w w' : World} {ops : Array Oper} {rest : List Oper} {o : Oper} {a : Act} {Q : Exit → Act → World → Prop} (hgd : o.guard = none) (s x : Operand) (t t2 : TypeId)
    (ho : o.op = .call { callee := .builtin .append, args := #[s, x], argTypes := #[t, t2] }) (y z v : Value) (hs : a.eval s = y) (hx : a.eval x = z)
    (hrun : (Builtin.append_ #[t, t2] o.type #[y, z]).run P w = .ok v w') (h : wpList P ops Q rest (a.put o.dst v) w') : wpList P ops Q (o :: rest) a w :=
  wpList_plain hgd fun K hK => by
    unfold Oper.wp execOp
    simp only [ho, resolve, invoke, builtin, Sem.run_bind, Sem.run_pure, Result.andThen_ok, List.map_toArray, List.map_cons, List.map_nil, hs, hx, hrun]
    exact hK _ _ h
theorem Sols.reads {w : World} {A : Option Addr} {n : Nat} {l : List Sol} (h : Sols w A n l) : Reads w w.heap.size 4 A n (flatS l) := by
  refine ⟨by rw [flatS_len, h.len], fun hn => ?_⟩
  obtain ⟨b, off, rfl, hb, hc⟩ := h.cells hn
  refine ⟨_, rfl, hb, fun j u hu => ?_⟩
  have hj : j < (flatS l).length := by
    rcases Nat.lt_or_ge j (flatS l).length with h1 | h1
    · exact h1
    · rw [List.getElem?_eq_none h1] at hu; cases hu
  rw [flatS_len, h.len] at hj
  obtain ⟨f0, f1, f2, f3⟩ := flatS_at l (j / 4) (by rw [h.len]; omega)
  obtain ⟨g0, g1, g2, g3⟩ := hc (j / 4) (by omega)
  have ad : ∀ o k, (⟨b, o, none⟩ : Addr).add k = ⟨b, o + k, none⟩ := fun o k => by unfold Addr.add; split <;> simp_all
  rw [ad]
  have hm : j % 4 = 0 ∨ j % 4 = 1 ∨ j % 4 = 2 ∨ j % 4 = 3 := by omega
  rcases hm with hm | hm | hm | hm
  · have e : j = j / 4 * 4 := by omega
    rw [e] at hu ⊢
    rw [f0] at hu
    rw [← hu]; exact g0
  · have e : j = j / 4 * 4 + 1 := by omega
    rw [e] at hu ⊢
    rw [f1] at hu
    rw [← hu, ← Nat.add_assoc]; exact g1
  · have e : j = j / 4 * 4 + 2 := by omega
    rw [e] at hu ⊢
    rw [f2] at hu
    rw [← hu, ← Nat.add_assoc]; exact g2
  · have e : j = j / 4 * 4 + 3 := by omega
    rw [e] at hu ⊢
    rw [f3] at hu
    rw [← hu, ← Nat.add_assoc]; exact g3
theorem flatS_one (l : List Sol) : ∀ u ∈ flatS l, u.oneCell' = true := by
  intro u hu
  unfold flatS at hu
  obtain ⟨s, _, hs⟩ := List.mem_flatMap.1 hu
  simp at hs
  rcases hs with rfl | rfl | rfl | rfl <;> rfl
/-- A slice of the call's own, of so many solutions. -/
def OwnPost (l : List Sol) (w : World) (e : Ending) (w' : World) : Prop := ∃ A c, e = .returned (.slice A l.length c) ∧ w'.ownsRow w.heap.size 28 4 (.slice A l.length c) l.length (flatS l) ∧ Below w.heap.size w w'
set_option maxHeartbeats 1000000 in
theorem clone_any (A : Option Addr) (n c : Nat) (l : List Sol) (w : World) (h : Sols w A n l) (hn0 : 0 < n) (hn : n ≤ 1000) :
    Calls Tryz.prog 34 #[.slice A n c] w (OwnPost l w) := by
  obtain ⟨b, off, rfl, _, _⟩ := h.cells hn0
  obtain ⟨i0, hi, hz0, hz1, hz2⟩ := info_parts sol_info
  have he : ∀ w, (binOp .eql 35 (.slice (some ⟨b, off, none⟩) n c) (.slice none 0 0)).run Tryz.prog w = .ok (.bool false) w := fun w => Lib.run_eql_slice_nil (P := Tryz.prog) w 35 28 (some ⟨b, off, none⟩) n c 0 0 Tryz.underlying35
  have hr := Lib.hid (h.reads.alloc (Nat.le_refl _) (.cells #[] 28))
  have hown : (w.alloc (.cells #[] 28)).ownsRow w.heap.size 28 4 (.slice (some ⟨w.heap.size, 0, none⟩) 0 0) 0 [] := World.ownsRow_made w #[] 0 (Nat.le_refl _) (by decide) rfl
  have HO := Lib.hid hown
  have HN := Lib.hid h.len
  clear h hown
  go_enter Tryz.func34, Tryz.ntmps34
  go_wp2_with (at_builtin; refine wpList_append_any _ rfl (.tmp 5) (.tmp 6) 35 rfl w.heap.size 28 i0 (.agg #[.int .i64 0, .int .i64 0, .int .i64 0, .int .i64 0]) 4 32 Tryz.underlying35 hi hz0 hz1 hz2 rfl (by decide) (.slice (some ⟨w.heap.size, 0, none⟩) 0 0) 0 [] rfl HO.out w.heap.size (some ⟨b, off, none⟩) n c (flatS l) rfl hr.out (flatS_one _) ?c1 ?c2 ?c3 ?_)
  case c1 => unfold maxLen; omega
  case c2 => omega
  case c3 => simp
  intro v' w1 hown2 hg _
  have hb : Below w.heap.size w w1 := ((Below.refl _ _).alloc (Nat.le_refl _) _).grown hg (by simp) (fun k hk => by simp [Value.ownBlock] at hk; omega)
  obtain ⟨A', c', rfl⟩ := own_slice2 hown2
  have HF := Lib.hid (show OwnPost l w (.returned (.slice A' n c')) w1 from ⟨A', c', by rw [HN.out], by rw [HN.out]; exact hown2, hb⟩)
  clear hown2 hg hb HO hr
  go_wp2
  go_ret
  exact HF.out
def GrowPost (w : World) (e : Ending) (w' : World) : Prop := ∃ A c, e = .returned (.slice A 0 c) ∧ w'.ownsRow w.heap.size 28 4 (.slice A 0 c) 0 [] ∧ Below w.heap.size w w'
set_option maxRecDepth 100000 in
set_option maxHeartbeats 1000000 in
theorem grow_any (n : Nat) (w : World) (h0 : 0 < n) (hn : n ≤ 4000) : Calls Tryz.prog 62 #[.slice none 0 0, .int .i64 (n : Int)] w (GrowPost w) := by
  obtain ⟨i0, hi, hz0, hz1, hz2⟩ := info_parts sol_info
  have hrun := Lib.run_append_nil_zeros (P := Tryz.prog) w 35 3 35 28 i0 (.agg #[.int .i64 0, .int .i64 0, .int .i64 0, .int .i64 0]) .i64 .i64 Tryz.underlying35 Tryz.underlying3 hi hz0 n h0 (by rw [hz1]; decide) (by omega) (by rw [hz2]; omega)
  have hg1 := grownCap_ge w n 0 28
  have hg2 := grownCap_le_maxLen w n 0 28 (by unfold maxLen; omega)
  generalize hG : grownCap w n 0 28 = G at *
  have HR := Lib.hid hrun
  have hown : (w.drew.alloc (.cells (Builtin.zeroCells (Value.agg #[.int .i64 0, .int .i64 0, .int .i64 0, .int .i64 0]).cells n ++ Builtin.zeroCells (Value.agg #[.int .i64 0, .int .i64 0, .int .i64 0, .int .i64 0]).cells (G - n)) 28)).ownsRow w.heap.size 28 4 (.slice (some ⟨w.heap.size, 0, none⟩) 0 G) 0 [] :=
    ⟨rfl, .inr ⟨w.heap.size, G, _, rfl, Nat.le_refl _, heap_alloc_new w.drew _, Nat.zero_le _, hg2, by simp [size_zeroCells, Value.cells]; omega, by simp⟩⟩
  have HF := Lib.hid (show GrowPost w (.returned (.slice (some ⟨w.heap.size, 0, none⟩) 0 G)) (w.drew.alloc (.cells (Builtin.zeroCells (Value.agg #[.int .i64 0, .int .i64 0, .int .i64 0, .int .i64 0]).cells n ++ Builtin.zeroCells (Value.agg #[.int .i64 0, .int .i64 0, .int .i64 0, .int .i64 0]).cells (G - n)) 28)) from ⟨_, _, rfl, hown, ((Below.refl _ _).drew).alloc (Nat.le_refl _) _⟩)
  clear hrun hown hG
  generalize Builtin.zeroCells (Value.agg #[.int .i64 0, .int .i64 0, .int .i64 0, .int .i64 0]).cells n ++ Builtin.zeroCells (Value.agg #[.int .i64 0, .int .i64 0, .int .i64 0, .int .i64 0]).cells (G - n) = C at *
  unfold maxLen at hg2
  go_enter Tryz.func62, Tryz.ntmps62
  go_wp2_with (at_builtin; refine wpList_append_run rfl (.tmp 20) (.tmp 21) 35 3 rfl (.slice none 0 0) (.int .i64 (n : Int)) _ rfl rfl HR.out ?_)
  go_ret
  exact HF.out
/-- An argument list of two slices. -/
structure TwoS (w : World) (b : Nat) (A1 : Option Addr) (n1 c1 : Nat) (l1 : List Sol) (A2 : Option Addr) (n2 c2 : Nat) (l2 : List Sol) : Prop where
  x : w.cell? ⟨b, 0, none⟩ = some (.slice A1 n1 c1)
  y : w.cell? ⟨b, 1, none⟩ = some (.slice A2 n2 c2)
  fst : Sols w A1 n1 l1
  snd : Sols w A2 n2 l2
def szk (n1 n2 : Nat) : Nat → Nat | 0 => 0 | 1 => n1 | _ => n1 + n2
def upk (l1 l2 : List Sol) : Nat → List Sol | 0 => [] | 1 => l1 | _ => l1 ++ l2
structure CatRel (w : World) (l1 l2 : List Sol) (v i : Value) (wr : World) (k : Nat) : Prop where
  le : k ≤ 2
  i_ : i = .int .i64 (k : Int)
  own : wr.ownsRow w.heap.size 28 4 v (upk l1 l2 k).length (flatS (upk l1 l2 k))
  below : Below w.heap.size w wr
theorem Sols.reads_in {w w' : World} {A : Option Addr} {n : Nat} {l : List Sol} (h : Sols w A n l) (hb : Below w.heap.size w w') : Reads w' w.heap.size 4 A n (flatS l) := h.reads.below hb
theorem flatS_app (l r : List Sol) : flatS (l ++ r) = flatS l ++ flatS r := by simp [flatS]
set_option maxRecDepth 100000 in
set_option maxHeartbeats 2000000 in
theorem concat_any (b : Nat) (c : Nat) (A1 : Option Addr) (n1 c1 : Nat) (l1 : List Sol) (A2 : Option Addr) (n2 c2 : Nat) (l2 : List Sol) (w : World) (h : TwoS w b A1 n1 c1 l1 A2 n2 c2 l2) (h0 : 0 < n1 + n2) (hn1 : n1 ≤ 1000) (hn2 : n2 ≤ 1000) :
    Calls Tryz.prog 36 #[.slice (some ⟨b, 0, none⟩) 2 c] w (OwnPost (l1 ++ l2) w) := by
  obtain ⟨i0, hi, hz0, hz1, hz2⟩ := info_parts sol_info
  have hx := h.x
  have hy := h.y
  have H := Lib.hid h
  have hblt := World.block_lt_of_cell? w _ hx
  clear h
  go_enter Tryz.func36, Tryz.ntmps36
  go_wp2_with fail
  go_loop [3, 11] (fun s i => ∃ k : Nat, k ≤ 2 ∧ i = .int .i64 (k : Int) ∧ s = .int .i64 (szk n1 n2 k : Int)) (fun _ i => 2 - (intOf i).toNat)
  case atStart => exact ⟨0, by omega, rfl, rfl⟩
  case round =>
    obtain ⟨k, hk, rfl, rfl⟩ := hrel
    have hk3 : k = 0 ∨ k = 1 ∨ k = 2 := by omega
    rcases hk3 with rfl | rfl | rfl
    · rw [show szk n1 n2 0 = 0 from rfl]
      go_wp2
      go_round
      case rel => exact ⟨1, by omega, rfl, by simp [szk]⟩
      case measure => simp [intOf]
    · rw [show szk n1 n2 1 = n1 from rfl]
      go_wp2
      go_round
      case rel => exact ⟨2, by omega, rfl, by simp [szk]⟩
      case measure => simp [intOf]
    · rw [show szk n1 n2 2 = n1 + n2 from rfl]
      go_wp2_with fail
      refine (grow_any (n1 + n2) w h0 (by omega)).mono ?_
      rintro e w1 ⟨A, cg, rfl, hown, hb⟩
      have hst := Lib.hid (show CatRel w l1 l2 (.slice A 0 cg) (.int .i64 0) w1 0 from ⟨by omega, rfl, hown, hb⟩)
      clear hown hb
      go_wp2_with fail
      go_loopw [6, 27] (fun v i wr => ∃ k, CatRel w l1 l2 v i wr k) (fun _ i _ => 2 - (intOf i).toNat)
      case atStart => exact ⟨_, hst.out⟩
      case round =>
        clear hst
        obtain ⟨k, hk, rfl, hown, hbel⟩ := hrel
        have hx' := (hbel.cell (p := ⟨b, 0, none⟩) hblt).trans hx
        have hy' := (hbel.cell (p := ⟨b, 1, none⟩) hblt).trans hy
        have hk3 : k = 0 ∨ k = 1 ∨ k = 2 := by omega
        have HO := Lib.hid hown
        clear hown
        have hl1 := H.out.fst.len
        have hl2 := H.out.snd.len
        rcases hk3 with rfl | rfl | rfl
        · have HR := Lib.hid (H.out.fst.reads_in hbel)
          have HL := Lib.hid hl1
          clear hl1 hl2
          go_wp2_with (at_builtin; refine wpList_append_any _ rfl (.tmp 31) (.tmp 32) 35 rfl w.heap.size 28 i0 (.agg #[.int .i64 0, .int .i64 0, .int .i64 0, .int .i64 0]) 4 32 Tryz.underlying35 hi hz0 hz1 hz2 rfl (by decide) u6 0 [] rfl HO.out w.heap.size A1 n1 c1 (flatS l1) rfl HR.out (flatS_one _) ?c1 ?c2 ?c3 ?_)
          case c1 => unfold maxLen; omega
          case c2 => omega
          case c3 => exact hbel.size
          intro v' w2 hown2 hg _
          have hbel2 := Lib.hid (hbel.grown hg hbel.size (fun k hk => (HO.out.lt k hk).1))
          have hst := Lib.hid (show CatRel w l1 l2 v' (.int .i64 1) w2 1 from ⟨by omega, rfl, by rw [show (upk l1 l2 1).length = n1 from HL.out]; exact hown2, hbel2.out⟩)
          clear hown2 hg
          go_wp2
          go_roundw
          case rel => exact ⟨_, hst.out⟩
          case measure => simp [intOf]
        · have HR := Lib.hid (H.out.snd.reads_in hbel)
          have HL := Lib.hid hl1
          have HL2 := Lib.hid hl2
          have HO' := Lib.hid (show wr.ownsRow w.heap.size 28 4 u6 n1 (flatS l1) by have := HO.out; rwa [show (upk l1 l2 1).length = n1 from hl1] at this)
          clear hl1 hl2
          go_wp2_with (at_builtin; refine wpList_append_any _ rfl (.tmp 31) (.tmp 32) 35 rfl w.heap.size 28 i0 (.agg #[.int .i64 0, .int .i64 0, .int .i64 0, .int .i64 0]) 4 32 Tryz.underlying35 hi hz0 hz1 hz2 rfl (by decide) u6 n1 (flatS l1) rfl HO'.out w.heap.size A2 n2 c2 (flatS l2) rfl HR.out (flatS_one _) ?c1 ?c2 ?c3 ?_)
          case c1 => unfold maxLen; omega
          case c2 => omega
          case c3 => exact hbel.size
          intro v' w2 hown2 hg _
          have hbel2 := Lib.hid (hbel.grown hg hbel.size (fun k hk => (HO.out.lt k hk).1))
          have hst := Lib.hid (show CatRel w l1 l2 v' (.int .i64 2) w2 2 from ⟨by omega, rfl, by rw [show (upk l1 l2 2).length = n1 + n2 by simp [upk, HL.out, HL2.out], show upk l1 l2 2 = l1 ++ l2 from rfl, flatS_app]; exact hown2, hbel2.out⟩)
          clear hown2 hg
          go_wp2
          go_roundw
          case rel => exact ⟨_, hst.out⟩
          case measure => simp [intOf]
        · obtain ⟨A', c', rfl⟩ := own_slice2 HO.out
          have HF := Lib.hid (show OwnPost (l1 ++ l2) w (.returned (.slice A' (l1 ++ l2).length c')) wr from ⟨_, _, rfl, HO.out, hbel⟩)
          rw [show (upk l1 l2 2).length = (l1 ++ l2).length from rfl]
          generalize (l1 ++ l2).length = N at *
          clear hl1 hl2
          go_wp2
          go_ret
          exact HF.out
/-! ### reversed in place -/
/-- A row of the call's own that reads as solutions. -/
def Rw (w : World) (g c n : Nat) (l : List Sol) : Prop := l.length = n ∧ ∃ cur : Array Value, w.heap[g]? = some (.cells cur 28 (0, 0)) ∧ cur.size = c * 4 ∧ cur.toList.take (n * 4) = flatS l
theorem flatS_set (l : List Sol) (i : Nat) (s : Sol) (hi : i < l.length) : flatS (l.set i s) = ((((flatS l).set (i * 4) (.int .i64 s.1)).set (i * 4 + 1) (.int .i64 s.2.1)).set (i * 4 + 2) (.int .i64 s.2.2.1)).set (i * 4 + 3) (.int .i64 s.2.2.2) := by
  induction l generalizing i with
  | nil => exact absurd hi (by simp)
  | cons x l ih =>
    have e : ∀ (y : Sol) r, flatS (y :: r) = .int .i64 y.1 :: .int .i64 y.2.1 :: .int .i64 y.2.2.1 :: .int .i64 y.2.2.2 :: flatS r := fun y r => by simp [flatS]
    cases i with
    | zero => rw [List.set_cons_zero, e, e]; rfl
    | succ i =>
      rw [List.set_cons_succ, e, e, ih i (by simpa using hi)]
      rw [show (i + 1) * 4 = i * 4 + 1 + 1 + 1 + 1 by omega, show i * 4 + 1 + 1 + 1 + 1 + 1 = (i * 4 + 1) + 1 + 1 + 1 + 1 by omega, show i * 4 + 1 + 1 + 1 + 1 + 2 = (i * 4 + 2) + 1 + 1 + 1 + 1 by omega, show i * 4 + 1 + 1 + 1 + 1 + 3 = (i * 4 + 3) + 1 + 1 + 1 + 1 by omega]
      simp only [List.set_cons_succ]
theorem Rw.write {w : World} {g c n : Nat} {l : List Sol} (h : Rw w g c n l) (i : Nat) (hi : i < n) (v : Sol) :
    Rw ((((w.setCell ⟨g, i * 4, none⟩ (.int .i64 v.1)).setCell ⟨g, i * 4 + 1, none⟩ (.int .i64 v.2.1)).setCell ⟨g, i * 4 + 2, none⟩ (.int .i64 v.2.2.1)).setCell ⟨g, i * 4 + 3, none⟩ (.int .i64 v.2.2.2)) g c n (l.set i v) := by
  obtain ⟨hl, cur, h1, h2, h3⟩ := h
  refine ⟨by rw [List.length_set]; exact hl, ((((cur.setIfInBounds (i * 4) (.int .i64 v.1)).setIfInBounds (i * 4 + 1) (.int .i64 v.2.1)).setIfInBounds (i * 4 + 2) (.int .i64 v.2.2.1)).setIfInBounds (i * 4 + 3) (.int .i64 v.2.2.2)), ?_, ?_, ?_⟩
  · simp [World.setCell, h1, Array.getElem?_modify]
  · simp [h2]
  · rw [flatS_set l i v (by omega), ← h3]
    simp only [Array.toList_setIfInBounds, List.take_set]
theorem Rw.at_ {w : World} {g c n : Nat} {l : List Sol} (h : Rw w g c n l) (i : Nat) (hi : i < n) : ∃ a1 a2 a3 a4, l.getD i nos = (a1, a2, a3, a4) ∧ w.cell? ⟨g, i * 4, none⟩ = some (.int .i64 a1) ∧ w.cell? ⟨g, i * 4 + 1, none⟩ = some (.int .i64 a2) ∧ w.cell? ⟨g, i * 4 + 2, none⟩ = some (.int .i64 a3) ∧ w.cell? ⟨g, i * 4 + 3, none⟩ = some (.int .i64 a4) ∧
    w.frozen? ⟨g, i * 4, none⟩ = false ∧ w.frozen? ⟨g, i * 4 + 1, none⟩ = false ∧ w.frozen? ⟨g, i * 4 + 2, none⟩ = false ∧ w.frozen? ⟨g, i * 4 + 3, none⟩ = false := by
  obtain ⟨hl, cur, h1, h2, h3⟩ := h
  obtain ⟨f0, f1, f2, f3⟩ := flatS_at l i (by omega)
  rw [← h3, List.getElem?_take] at f0 f1 f2 f3
  rw [if_pos (by omega)] at f0 f1 f2 f3
  have k : ∀ o u, cur.toList[o]? = some u → w.cell? ⟨g, o, none⟩ = some u := fun o u hu => by
    rw [cell_of_row w g o _ _ _ h1]
    simpa using hu
  have z : ∀ o, w.frozen? ⟨g, o, none⟩ = false := fun o => by simp [World.frozen?, h1]
  exact ⟨_, _, _, _, rfl, k _ _ f0, k _ _ f1, k _ _ f2, k _ _ f3, z _, z _, z _, z _⟩
/-- Turned about up to a place from both ends. -/
def swp (l : List Sol) (i : Nat) : List Sol := (List.range l.length).map fun k => if k < i ∨ l.length - 1 - k < i then l.getD (l.length - 1 - k) nos else l.getD k nos
theorem swp_len (l : List Sol) (i : Nat) : (swp l i).length = l.length := by simp [swp]
theorem swp_get (l : List Sol) (i k : Nat) (hk : k < l.length) : (swp l i).getD k nos = if k < i ∨ l.length - 1 - k < i then l.getD (l.length - 1 - k) nos else l.getD k nos := by
  simp [swp, List.getD_eq_getElem?_getD, hk]
theorem getD_ext {l r : List Sol} (h : l.length = r.length) (hk : ∀ k, k < l.length → l.getD k nos = r.getD k nos) : l = r := by
  apply List.ext_getElem h
  intro k h1 h2
  have := hk k h1
  rw [List.getD_eq_getElem?_getD, List.getD_eq_getElem?_getD, List.getElem?_eq_getElem h1, List.getElem?_eq_getElem h2] at this
  simpa using this
theorem getD_set (l : List Sol) (i k : Nat) (s : Sol) (hi : i < l.length) : (l.set i s).getD k nos = if k = i then s else l.getD k nos := by
  rw [List.getD_eq_getElem?_getD, List.getElem?_set]
  by_cases e : i = k
  · subst e; simp [hi]
  · rw [if_neg e, if_neg (fun h => e h.symm), List.getD_eq_getElem?_getD]
theorem swp_zero (l : List Sol) : swp l 0 = l := getD_ext (swp_len _ _) (fun k hk => by rw [swp_len] at hk; rw [swp_get l 0 k hk, if_neg (by omega)])
theorem swp_step (l : List Sol) (i : Nat) (h : 2 * i + 1 < l.length) : ((swp l i).set i ((swp l i).getD (l.length - 1 - i) nos)).set (l.length - 1 - i) ((swp l i).getD i nos) = swp l (i + 1) := by
  refine getD_ext (by rw [List.length_set, List.length_set, swp_len, swp_len]) (fun k hk => ?_)
  rw [List.length_set, List.length_set, swp_len] at hk
  rw [getD_set _ _ _ _ (by rw [List.length_set, swp_len]; omega), getD_set _ _ _ _ (by rw [swp_len]; omega), swp_get l (i + 1) k hk, swp_get l i i (by omega), swp_get l i (l.length - 1 - i) (by omega), swp_get l i k hk]
  have n1 : ¬ (i < i ∨ l.length - 1 - i < i) := by omega
  have n2 : ¬ (l.length - 1 - i < i ∨ l.length - 1 - (l.length - 1 - i) < i) := by omega
  rw [if_neg n1, if_neg n2]
  by_cases e1 : k = l.length - 1 - i
  · rw [if_pos e1, if_pos (by omega), e1]
    congr 1
    omega
  · rw [if_neg e1]
    by_cases e2 : k = i
    · rw [if_pos e2, if_pos (by omega), e2]
    · rw [if_neg e2]
      by_cases e3 : k < i ∨ l.length - 1 - k < i
      · rw [if_pos e3, if_pos (by omega)]
      · rw [if_neg e3, if_neg (by omega)]
theorem swp_end (l : List Sol) (i : Nat) (h : l.length ≤ 2 * i + 1) : swp l i = l.reverse := by
  refine getD_ext (by rw [swp_len, List.length_reverse]) (fun k hk => ?_)
  rw [swp_len] at hk
  rw [swp_get l i k hk]
  have e : l.reverse.getD k nos = l.getD (l.length - 1 - k) nos := by
    rw [List.getD_eq_getElem?_getD, List.getD_eq_getElem?_getD, List.getElem?_reverse hk]
  rw [e]
  by_cases c : k < i ∨ l.length - 1 - k < i
  · rw [if_pos c]
  · rw [if_neg c]
    congr 1
    omega
theorem Below.set4g {g : Nat} {a w : World} (h : Below g a w) (o : Nat) (v0 v1 v2 v3 : Value) : Below g a ((((w.setCell ⟨g, o, none⟩ v0).setCell ⟨g, o + 1, none⟩ v1).setCell ⟨g, o + 2, none⟩ v2).setCell ⟨g, o + 3, none⟩ v3) :=
  (((h.setCell (Nat.le_refl _) _).setCell (Nat.le_refl _) _).setCell (Nat.le_refl _) _).setCell (Nat.le_refl _) _
theorem Rw.write4 {w : World} {g c n : Nat} {l : List Sol} (h : Rw w g c n l) (i : Nat) (hi : i < n) (a b d e : Int) :
    Rw ((((w.setCell ⟨g, i * 4, none⟩ (.int .i64 a)).setCell ⟨g, i * 4 + 1, none⟩ (.int .i64 b)).setCell ⟨g, i * 4 + 2, none⟩ (.int .i64 d)).setCell ⟨g, i * 4 + 3, none⟩ (.int .i64 e)) g c n (l.set i (a, b, d, e)) := h.write i hi (a, b, d, e)
theorem size_set4 (w : World) (g o : Nat) (v0 v1 v2 v3 : Value) : ((((w.setCell ⟨g, o, none⟩ v0).setCell ⟨g, o + 1, none⟩ v1).setCell ⟨g, o + 2, none⟩ v2).setCell ⟨g, o + 3, none⟩ v3).heap.size = w.heap.size := by simp
theorem Rw.drew {w : World} {g c n : Nat} {l : List Sol} (h : Rw w g c n l) : Rw w.drew g c n l := h
theorem size_drew {w : World} {k : Nat} (h : w.heap.size = k) : w.drew.heap.size = k := h
theorem Rw.swap {w wr : World} {g c n : Nat} {l l' : List Sol} (h : Rw wr g c n l) (hb : Below g w wr) (hz : wr.heap.size = w.heap.size) {i j : Nat} (hi : i < n) (hj : j < n) {a1 a2 a3 a4 b1 b2 b3 b4 : Int} (hs : (l.set i (b1, b2, b3, b4)).set j (a1, a2, a3, a4) = l') :
    ∃ W, W = ((((((((wr.setCell ⟨g, i * 4, none⟩ (.int .i64 b1)).setCell ⟨g, i * 4 + 1, none⟩ (.int .i64 b2)).setCell ⟨g, i * 4 + 2, none⟩ (.int .i64 b3)).setCell ⟨g, i * 4 + 3, none⟩ (.int .i64 b4)).setCell ⟨g, j * 4, none⟩ (.int .i64 a1)).setCell ⟨g, j * 4 + 1, none⟩ (.int .i64 a2)).setCell ⟨g, j * 4 + 2, none⟩ (.int .i64 a3)).setCell ⟨g, j * 4 + 3, none⟩ (.int .i64 a4)).drew ∧ Rw W g c n l' ∧ Below g w W ∧ W.heap.size = w.heap.size :=
  ⟨_, rfl, hs ▸ ((h.write4 i hi b1 b2 b3 b4).write4 j hj a1 a2 a3 a4).drew, (Below.set4g (Below.set4g hb (i * 4) (.int .i64 b1) (.int .i64 b2) (.int .i64 b3) (.int .i64 b4)) (j * 4) (.int .i64 a1) (.int .i64 a2) (.int .i64 a3) (.int .i64 a4)).drew, size_drew ((size_set4 _ g (j * 4) (.int .i64 a1) (.int .i64 a2) (.int .i64 a3) (.int .i64 a4)).trans ((size_set4 wr g (i * 4) (.int .i64 b1) (.int .i64 b2) (.int .i64 b3) (.int .i64 b4)).trans hz))⟩
def RevPost (g c n : Nat) (l : List Sol) (w : World) (e : Ending) (w' : World) : Prop := (∃ v, e = .returned v) ∧ Rw w' g c n l.reverse ∧ Below g w w' ∧ w'.heap.size = w.heap.size
set_option maxRecDepth 100000 in
set_option maxHeartbeats 4000000 in
theorem reverse_any (g c n : Nat) (l : List Sol) (w : World) (h : Rw w g c n l) (h0 : 0 < n) (hn : n ≤ 1000) (_hc : n ≤ c) : Calls Tryz.prog 35 #[.slice (some ⟨g, 0, none⟩) n c] w (RevPost g c n l w) := by
  have hl := h.1
  have HL := Lib.hid hl
  have HST := Lib.hid (show Rw w g c n (swp l 0) by rw [swp_zero]; exact h)
  clear h hl
  go_enter Tryz.func35, Tryz.ntmps35
  go_wp2_with fail
  go_loopw [2, 3] (fun vi vj wr => ∃ i : Nat, i ≤ n ∧ 2 * i ≤ n + 1 ∧ vi = .int .i64 (i : Int) ∧ vj = .int .i64 ((n : Int) - 1 - i) ∧ Rw wr g c n (swp l i) ∧ Below g w wr ∧ wr.heap.size = w.heap.size) (fun vi _ _ => n - (intOf vi).toNat)
  case atStart => exact ⟨0, by omega, by omega, rfl, by simp, HST.out, Below.refl _ _, rfl⟩
  case round =>
    clear HST
    obtain ⟨i, hi, hi2, rfl, rfl, hrw, hbel, hsz⟩ := hrel
    have HR := Lib.hid hrw
    have HB := Lib.hid hbel
    by_cases hlt : 2 * i + 1 < n
    · obtain ⟨a1, a2, a3, a4, ha, d0, d1, d2, d3, z0, z1, z2, z3⟩ := hrw.at_ i (by omega)
      obtain ⟨j, hj⟩ : ∃ j, n - 1 - i = j := ⟨_, rfl⟩
      obtain ⟨b1, b2, b3, b4, hb, e0, e1, e2, e3, y0, y1, y2, y3⟩ := hrw.at_ j (by omega)
      have hji : i < j := by omega
      have hjn : j < n := by omega
      have hjc : (n : Int) - 1 - (i : Int) = (j : Int) := by omega
      have HS := Lib.hid (swp_step l i (by rw [HL.out]; exact hlt))
      rw [HL.out, hj, ha, hb] at HS
      have HSZ := Lib.hid hsz
      have HJ := Lib.hid hj
      have HJC := Lib.hid hjc
      have hij : (i : Int) < (j : Int) := by omega
      have hjl : (j : Int) < (n : Int) := by omega
      rw [hjc]
      clear hrw hbel ha hb hj hjc
      go_wp2_with fail
      go_region_with fail
      all_goals (
        obtain ⟨W2, hW2, hR2, hB2, hZ2⟩ := Rw.swap HR.out HB.out HSZ.out (show i < n by omega) hjn HS.out
        rw [← hW2]
        have HR2 := Lib.hid hR2
        have HB2 := Lib.hid hB2
        have HZ2 := Lib.hid hZ2
        clear hsz hW2 hR2 hB2 hZ2 d0 d1 d2 d3 e0 e1 e2 e3 z0 z1 z2 z3 y0 y1 y2 y3
        go_wp2
        go_roundw
        case rel =>
          have hjc := HJC.out
          first
            | exact ⟨i + 1, by omega, by omega, by go_num, by congr 1; omega, HR2.out, HB2.out, HZ2.out⟩
            | exact ⟨i + 1, by omega, by omega, by go_num, by congr 1; omega, HR2.out.drew, HB2.out.drew, size_drew HZ2.out⟩
        case measure => simp [intOf]; omega)
    · have he := Lib.hid (swp_end l i (by rw [HL.out]; omega))
      have hnl : ¬ (i : Int) < (n : Int) - 1 - (i : Int) := by omega
      have HF := Lib.hid (show ∀ v, RevPost g c n l w (.returned v) wr from fun v => ⟨⟨v, rfl⟩, by rw [← he.out]; exact HR.out, HB.out, hsz⟩)
      clear hrw hbel
      go_wp2
      refine bodyPost_ret (v := .tuple #[]) (by simp [results, Tryz.results35, go_sem]) rfl (HF.out _)
end Go.Proofs.YtmididlfnajhiaaGreatDoor
