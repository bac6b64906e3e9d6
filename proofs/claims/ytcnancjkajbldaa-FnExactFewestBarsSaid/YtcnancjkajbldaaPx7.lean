-- Printed by wip/pp.py of this claim's session (the kit's print over functions that are given by hand). Not trusted: Lean checks it.
import Derived.Test.YtcnancjkajbldaaPx0
import Derived.Test.YtcnancjkajbldaaPx5
import Derived.Test.YtcnancjkajbldaaPx6
namespace Go.Proofs.Ytcnancjkajbldaa.P
open Go.RowKit Go.Proofs.YtcnancjkajbldaaW.PrintWords Go.Proofs.YtcnancjkajbldaaW.PrintLast Go.Proofs.YtcnancjkajbldaaW.PrintMore
attribute [local go_sem] max2_int min2_int max_two min_two max_three min_three max_four min_four   -- for this text's walks alone
set_option linter.unusedVariables false
set_option linter.unusedSimpArgs false

/-! ### impl_leastTime: function 34 (given) -/
abbrev impl_leastTime.St := Int × List Int × Int
/-- What the visitor makes of one share. -/
def impl_leastTime.step (k : Nat) (ws rs : List Int) (st : impl_leastTime.St) (s : List Int) : Option impl_leastTime.St :=
  (impl_times.f k ws rs s).bind fun t => (slices_Max_int_int.f k t).bind fun n => some (if n < st.1 then (n, s, 1) else if n = st.1 then (st.1, st.2.1, wrap64 (st.2.2 + 1)) else st)
def impl_leastTime.vis (k : Nat) (ws rs : List Int) : List (List Int) → impl_leastTime.St → Option impl_leastTime.St
  | [], st => some st
  | s :: l, st => (impl_leastTime.step k ws rs st s).bind fun st' => impl_leastTime.vis k ws rs l st'
/-- All shares that begin with some numbers, in order. -/
def impl_leastTime.sh : Nat → Nat → List Int → List (List Int)
  | 0, b, begin_ => [begin_ ++ [(b : Int)]]
  | p + 1, b, begin_ => (List.range (b + 1)).flatMap fun n => impl_leastTime.sh p (b - n) (begin_ ++ [(n : Int)])
def impl_leastTime.f (k : Nat) (ws rs : List Int) : Option (Int × List Int × Int) :=
  if 1 ≤ rs.length ∧ rs.length ≤ 100 ∧ ws.length ≤ 1000 then impl_leastTime.vis k ws rs (impl_leastTime.sh (rs.length - 1) ws.length []) (1099511627776, [], 0) else none
/-- append(v[:n:n], x): always a new row. -/
theorem append_fresh {P : Program} {w : World} {base : Nat} {t ty e : TypeId} {i : TypeInfo} {z : Value} {bytes : Nat} (ht : P.underlying t = some (.slice e)) (hi : P.info? e = some i) (hz : i.zero = some z) (hsize : i.size = 1) (hby : i.bytes = bytes) (hzs : z.cells.size = 1)
    {A : Option Addr} {xs : List Int} {x : Int} {x0 : Addr} (hC : Kd.C (Kd.int .i64) w A xs.length xs) (hx : w.cell? x0 = some (.int .i64 x)) (hbase : base ≤ w.heap.size) (hl : (xs.length + 1) * bytes ≤ 140737488355328) (hb0 : 0 < bytes) (c : Nat) :
    ∃ cap w1, (Builtin.append_ #[t, t] ty #[.slice A xs.length xs.length, .slice (some x0) 1 c]).run P w = .ok (.slice (some ⟨w.heap.size, 0, none⟩) (xs.length + 1) cap) w1 ∧
      w1.ownsRow base e 1 (.slice (some ⟨w.heap.size, 0, none⟩) (xs.length + 1) cap) (xs.length + 1) (encs (Value.int .i64) (xs ++ [x])) ∧ Below w.heap.size w w1 := by
  have hlen : xs.length + 1 ≤ 140737488355328 := Nat.le_trans (Nat.le_mul_of_pos_right _ hb0) hl
  have hmax : xs.length + 1 ≤ maxLen := by simp only [maxLen]; omega
  have hnews : ∀ j u, [Value.int .i64 x][j]? = some u → w.cell? (x0.add j) = some u := by
    intro j u hu
    cases j with
    | zero => simp at hu; subst hu; rw [show x0.add 0 = x0 from Addr.add_zero' _]; exact hx
    | succ j => simp at hu
  have grown : ∀ (old : Nat), (w.drew.alloc (.cells ((encs (Value.int .i64) xs).toArray ++ [Value.int .i64 x].toArray ++ Builtin.zeroCells z.cells (grownCap w (xs.length + 1) old e - (xs.length + 1))) e)).ownsRow base e 1
        (.slice (some ⟨w.heap.size, 0, none⟩) (xs.length + 1) (grownCap w (xs.length + 1) old e)) (xs.length + 1) (encs (Value.int .i64) (xs ++ [x])) := by
    intro old
    have hge := grownCap_ge w (xs.length + 1) old e
    have hcm : grownCap w (xs.length + 1) old e ≤ maxLen := grownCap_le_maxLen w (xs.length + 1) old e hmax
    refine ⟨by rw [encs_length, List.length_append, List.length_singleton, Nat.mul_one], .inr ⟨w.heap.size, _, _, rfl, hbase, heap_alloc_new w.drew _, hge, hcm, ?_, ?_⟩⟩
    · simp only [Array.size_append, List.size_toArray, size_zeroCells, hzs, encs_length, List.length_singleton, Nat.mul_one]
      omega
    · rw [encs_append]
      simp only [Array.toList_append, List.append_assoc]
      rw [← List.append_assoc]
      have : (encs (Value.int .i64) xs ++ encs (Value.int .i64) [x]).length = (xs.length + 1) * 1 := by rw [List.length_append, encs_length, encs_length, List.length_singleton, Nat.mul_one]
      rw [← this]
      exact List.take_left
  have hbel : ∀ o, Below w.heap.size w (w.drew.alloc o) := fun o => below_alloc (below_drew1 (Below.refl _ _)) o
  cases A with
  | none =>
    have hx0 : xs = [] := by
      cases xs with
      | nil => rfl
      | cons y ys =>
        obtain ⟨ad, h, _⟩ := hC.2.2 (by simp)
        cases h
    subst hx0
    have hr := run_append_nil (P := P) w t ty e i z ht hi hz x0 1 c [.int .i64 x] (by rw [hsize]; rfl) hnews (by omega) (by omega) (by rw [hby]; simp only [List.length_nil, Nat.zero_add] at hl; omega)
    have hg := grown 0
    simp only [List.length_nil, Nat.zero_add, encs, List.map_nil, List.nil_append, Array.empty_append] at hg hr ⊢
    exact ⟨_, _, hr, hg, hbel _⟩
  | some ad =>
    have holds : ∀ j u, (encs (Value.int .i64) xs)[j]? = some u → w.cell? (ad.add j) = some u := by
      intro j u hj
      have hjl : j < xs.length := by
        rcases Nat.lt_or_ge j xs.length with h | h
        · exact h
        · rw [List.getElem?_eq_none (by rw [encs_length]; exact h)] at hj
          cases hj
      obtain ⟨ad', e, h⟩ := Kd.at_int hC (j : Int) (by omega) (by omega)
      injection e with e
      subst e
      rw [Int.toNat_natCast] at h
      rw [h, ← hj]
      simp [encs, rd, List.getElem?_eq_getElem hjl, List.getD_eq_getElem?_getD]
    have hr := run_append_grow (P := P) w t ty e i z ht hi hz ad xs.length xs.length (encs (Value.int .i64) xs) (by rw [encs_length, hsize, Nat.mul_one]) holds x0 1 c [.int .i64 x] (by rw [hsize]; rfl) hnews (by omega) (by omega) (growslice_fits (by omega) (by rw [hby]; exact hl))
    exact ⟨_, _, hr, grown xs.length, hbel _⟩
section
variable {P : Program} {ops : Array Oper} {rest : List Oper} {o : Oper} {a : Act} {Q : Exit → Act → World → Prop}
theorem wp_append_fresh {w0 W : World} (base : Nat) (hgd : o.guard = none) (s x : Operand) (t e : TypeId) (z : Value) (bytes : Nat) (ho : o.op = .call { callee := .builtin .append, args := #[s, x], argTypes := #[t, t] })
    (ht : P.underlying t = some (.slice e)) (hinfo : (P.info? e).map (fun i => (i.zero, i.size, i.bytes)) = some (some z, 1, bytes)) (hz : z.cells.size = 1) (hb0 : 0 < bytes)
    (A : Option Addr) (xs : List Int) (p : Int) (ok : Nat → Prop) (hs : a.eval s = .slice A xs.length xs.length) (hx : a.eval x = .slice (some ⟨W.heap.size, 0, none⟩) 1 1) (hfresh : ∀ k, W.heap.size ≤ k → ok k)
    (HC : Kd.C (Kd.int .i64) W A xs.length xs) (hbase : base ≤ W.heap.size) (hl : (xs.length + 1) * bytes ≤ 140737488355328)
    (h : ∀ v1 w1, (Kd.int .i64).R e w1 base ok v1 (xs ++ [p]) → Below W.heap.size W w1 → wpList P ops Q rest (a.put o.dst v1) w1) :
    wpList P ops Q (o :: rest) a (W.alloc (.cells #[.int .i64 p] e)) := by
  obtain ⟨i0, hi, hzz⟩ := Option.map_eq_some_iff.1 hinfo
  simp only [Prod.mk.injEq] at hzz
  obtain ⟨hz0, hz1, hz2⟩ := hzz
  have hb1 : Below W.heap.size W (W.alloc (.cells #[.int .i64 p] e)) := below_alloc (Below.refl _ _) _
  have hsz : (W.alloc (.cells #[.int .i64 p] e)).heap.size = W.heap.size + 1 := by simp
  obtain ⟨cap, w1, hrun, hown, hb2⟩ := append_fresh (ty := o.type) ht hi hz0 hz1 hz2 hz (Kd.C_below HC hb1) (x0 := ⟨W.heap.size, 0, none⟩) (x := p) (by rw [World.cell?_alloc_new]; rfl) (base := base) (by omega) hl hb0 1
  have hb3 : Below W.heap.size W w1 := hb1.trans (hb2.mono (by omega))
  refine wpList_plain hgd fun K hK => ?_
  unfold Oper.wp execOp
  simp only [ho, resolve, invoke, builtin, Sem.run_bind, Sem.run_pure, Result.andThen_ok, List.map_toArray, List.map_cons, List.map_nil, hs, hx, hrun]
  refine hK _ _ (h _ w1 (Kd.R_of_own (by rw [List.length_append, List.length_singleton]; exact hown) (fun k hk => hfresh k ?_)) hb3)
  rw [hsz] at hk
  have : W.heap.size + 1 = k := by simpa [Value.ownBlock] using hk
  omega
end
theorem cut_full {P : Program} {t e : TypeId} {i : TypeInfo} (ht : P.underlying t = some (.slice e)) (hi : P.info? e = some i) (hsz : i.size = 1) (A : Option Addr) (n c : Nat) (hc : n ≤ c) :
    ∀ W, (Instr.slice t (.slice A n c) none (some (.int .i64 (n : Int))) (some (.int .i64 (n : Int)))).run P W = .ok (.slice A n n) W := by
  intro W
  have hel : P.elem t = e := by simp [Program.elem, ht]
  have hu : P.underlying t = some (.slice (P.elem t)) := by rw [hel]; exact ht
  rw [run_slice_hm W t A n c hu .i64 .i64 (n : Int) (n : Int) (Int.natCast_nonneg _) (Int.le_refl _) (by omega), hel]
  have ha : A.map (fun x => x.add 0) = A := by cases A with
    | none => rfl
    | some ad => show some (ad.add 0) = some ad; rw [Addr.add_zero' ad]
  simp [sizeOf, typeInfo, hi, hsz, sliced, Result.andThen, ha]
/-- The blocks of the variables that the visitor writes. -/
def impl_leastTime.S (b : Nat) (k : Nat) : Prop := k = b + 3 ∨ k = b + 4 ∨ k = b + 5
structure impl_leastTime.Inv (w0 w : World) (Aw : Option Addr) (cw nw : Nat) (Ar : Option Addr) (cr nr : Nat) (st : impl_leastTime.St) (v : Value) : Prop where
  below : Below w0.heap.size w0 w
  size : w0.heap.size + 6 ≤ w.heap.size
  hw : w.heap[w0.heap.size]? = some (.cells #[.slice Aw nw cw] 22 (0, 0))
  hr : w.heap[w0.heap.size + 1]? = some (.cells #[.slice Ar nr cr] 22 (0, 0))
  h7 : w.heap[w0.heap.size + 3]? = some (.cells #[.int .i64 st.1] 3 (0, 0))
  h8 : w.heap[w0.heap.size + 4]? = some (.cells #[v] 22 (0, 0))
  h9 : w.heap[w0.heap.size + 5]? = some (.cells #[.int .i64 st.2.2] 3 (0, 0))
  row : (Kd.int .i64).R 3 w w0.heap.size (fun k => ¬ impl_leastTime.S w0.heap.size k) v st.2.1
theorem impl_leastTime.Inv.step {w0 w w1 : World} {Aw : Option Addr} {cw nw : Nat} {Ar : Option Addr} {cr nr : Nat} {st : impl_leastTime.St} {v : Value} (h : impl_leastTime.Inv w0 w Aw cw nw Ar cr nr st v) (hb : Below w.heap.size w w1) : impl_leastTime.Inv w0 w1 Aw cw nw Ar cr nr st v := by
  have hs := hb.size
  have h6 := h.size
  exact ⟨below_step h.below hb, by omega, blk_below h.hw hb, blk_below h.hr hb, blk_below h.h7 hb, blk_below h.h8 hb, blk_below h.h9 hb, Kd.R_below h.row hb⟩
/-- All three are written. -/
theorem impl_leastTime.Inv.put {w0 w : World} {Aw : Option Addr} {cw nw : Nat} {Ar : Option Addr} {cr nr : Nat} {st : impl_leastTime.St} {v : Value} (h : impl_leastTime.Inv w0 w Aw cw nw Ar cr nr st v) (n : Int) (u : Value) (s : List Int) (c : Int) (hu : (Kd.int .i64).R 3 w w0.heap.size (fun k => ¬ impl_leastTime.S w0.heap.size k) u s) :
    impl_leastTime.Inv w0 (((w.setCell ⟨w0.heap.size + 3, 0, none⟩ (.int .i64 n)).setCell ⟨w0.heap.size + 4, 0, none⟩ u).setCell ⟨w0.heap.size + 5, 0, none⟩ (.int .i64 c)) Aw cw nw Ar cr nr (n, s, c) u := by
  have hB := h.below
  have far : ∀ k, ¬ impl_leastTime.S w0.heap.size k → (((w.setCell ⟨w0.heap.size + 3, 0, none⟩ (.int .i64 n)).setCell ⟨w0.heap.size + 4, 0, none⟩ u).setCell ⟨w0.heap.size + 5, 0, none⟩ (.int .i64 c)).heap[k]? = w.heap[k]? := fun k hk => by
    unfold impl_leastTime.S at hk
    rw [Below.heap_setCell _ _ _ k (by show k ≠ w0.heap.size + 5; omega), Below.heap_setCell _ _ _ k (by show k ≠ w0.heap.size + 4; omega), Below.heap_setCell _ _ _ k (by show k ≠ w0.heap.size + 3; omega)]
  refine ⟨((hB.setCell (by show w0.heap.size ≤ w0.heap.size + 3; omega) _).setCell (by show w0.heap.size ≤ w0.heap.size + 4; omega) _).setCell (by show w0.heap.size ≤ w0.heap.size + 5; omega) _, by simpa [World.setCell] using h.size, (far _ (by unfold impl_leastTime.S; omega)).trans h.hw, (far _ (by unfold impl_leastTime.S; omega)).trans h.hr, ?_, ?_, ?_, Kd.R_step hu (fun k hk _ => far k hk)⟩
  · rw [Below.heap_setCell _ _ _ _ (by show w0.heap.size + 3 ≠ w0.heap.size + 5; omega), Below.heap_setCell _ _ _ _ (by show w0.heap.size + 3 ≠ w0.heap.size + 4; omega)]
    exact one_setCell h.h7
  · rw [Below.heap_setCell _ _ _ _ (by show w0.heap.size + 4 ≠ w0.heap.size + 5; omega)]
    refine one_setCell ((Below.heap_setCell _ _ _ _ ?_).trans h.h8)
    show w0.heap.size + 4 ≠ w0.heap.size + 3
    omega
  · refine one_setCell ((Below.heap_setCell _ _ _ _ ?_).trans ((Below.heap_setCell _ _ _ _ ?_).trans h.h9))
    · show w0.heap.size + 5 ≠ w0.heap.size + 4
      omega
    · show w0.heap.size + 5 ≠ w0.heap.size + 3
      omega
theorem impl_leastTime.Inv.put9 {w0 w : World} {Aw : Option Addr} {cw nw : Nat} {Ar : Option Addr} {cr nr : Nat} {st : impl_leastTime.St} {v : Value} (h : impl_leastTime.Inv w0 w Aw cw nw Ar cr nr st v) (c : Int) :
    impl_leastTime.Inv w0 (w.setCell ⟨w0.heap.size + 5, 0, none⟩ (.int .i64 c)) Aw cw nw Ar cr nr (st.1, st.2.1, c) v := by
  have hB := h.below
  have far : ∀ k, k ≠ w0.heap.size + 5 → (w.setCell ⟨w0.heap.size + 5, 0, none⟩ (.int .i64 c)).heap[k]? = w.heap[k]? := fun k hk => Below.heap_setCell _ _ _ k hk
  refine ⟨hB.setCell (by show w0.heap.size ≤ w0.heap.size + 5; omega) _, by simpa [World.setCell] using h.size, (far _ (by omega)).trans h.hw, (far _ (by omega)).trans h.hr, (far _ (by omega)).trans h.h7, (far _ (by omega)).trans h.h8, one_setCell h.h9, Kd.R_step h.row (fun k hk _ => far k (by unfold impl_leastTime.S at hk; omega))⟩
theorem impl_leastTime.kept_put {w0 w w1 : World} (h : Below w.heap.size w w1) (n : Int) (u : Value) (c : Int) : Kept w (((w1.setCell ⟨w0.heap.size + 3, 0, none⟩ (.int .i64 n)).setCell ⟨w0.heap.size + 4, 0, none⟩ u).setCell ⟨w0.heap.size + 5, 0, none⟩ (.int .i64 c)) (impl_leastTime.S w0.heap.size) :=
  (((Kept.of_below h _).setCell (p := ⟨w0.heap.size + 3, 0, none⟩) (.inl (.inl rfl)) _).setCell (p := ⟨w0.heap.size + 4, 0, none⟩) (.inl (.inr (.inl rfl))) _).setCell (p := ⟨w0.heap.size + 5, 0, none⟩) (.inl (.inr (.inr rfl))) _
theorem impl_leastTime.kept_put9 {w0 w w1 : World} (h : Below w.heap.size w w1) (c : Int) : Kept w (w1.setCell ⟨w0.heap.size + 5, 0, none⟩ (.int .i64 c)) (impl_leastTime.S w0.heap.size) :=
  (Kept.of_below h _).setCell (p := ⟨w0.heap.size + 5, 0, none⟩) (.inl (.inr (.inr rfl))) _
set_option maxRecDepth 100000 in
set_option maxHeartbeats 4000000 in
theorem impl_leastTime.visit (k : Nat) {w0 w : World} {Aw : Option Addr} {cw : Nat} {Ar : Option Addr} {cr : Nat} (ws rs : List Int) (st st' : impl_leastTime.St) (v u : Value) (s : List Int) (hI : impl_leastTime.Inv w0 w Aw cw ws.length Ar cr rs.length st v)
    (hrw : Kd.C (Kd.int .i64) w0 Aw ws.length ws) (hcw : ws.length ≤ cw) (hrr : Kd.C (Kd.int .i64) w0 Ar rs.length rs) (hcr : rs.length ≤ cr) (hu : (Kd.int .i64).R 3 w w0.heap.size (fun k => ¬ impl_leastTime.S w0.heap.size k) u s) (hst : impl_leastTime.step k ws rs st s = some st') :
    Calls Try.prog 58 #[u, .pointer (some ⟨w0.heap.size, 0, none⟩), .pointer (some ⟨w0.heap.size + 1, 0, none⟩), .pointer (some ⟨w0.heap.size + 3, 0, none⟩), .pointer (some ⟨w0.heap.size + 4, 0, none⟩), .pointer (some ⟨w0.heap.size + 5, 0, none⟩)] w fun e w' => e = .returned (.tuple #[]) ∧ (∃ v', impl_leastTime.Inv w0 w' Aw cw ws.length Ar cr rs.length st' v') ∧ Kept w w' (impl_leastTime.S w0.heap.size) := by
  obtain ⟨Au, cu, rfl⟩ := Kd.R_slice hu
  unfold impl_leastTime.step at hst
  obtain ⟨t, ht, hst⟩ := Option.bind_eq_some_iff.mp hst
  obtain ⟨n, hn, hst⟩ := Option.bind_eq_some_iff.mp hst
  have hru := Kd.R_reads' hu
  have hct := impl_times.calls k Aw cw ws Ar cr rs Au cu s t w (Kd.C_below hrw hI.below) hcw (Kd.C_below hrr hI.below) hcr hru.2.2 hru.2.1 ht
  have hcm := fun A c w1 hr hc => slices_Max_int_int.calls k A c t n w1 hr hc hn
  have HU := Aside0.mk hu
  have HI := Aside0.mk hI
  have e1 : w.cell? ⟨w0.heap.size, 0, none⟩ = some (.slice Aw ws.length cw) := cell_of_one hI.hw
  have e2 : w.cell? ⟨w0.heap.size + 1, 0, none⟩ = some (.slice Ar rs.length cr) := cell_of_one hI.hr
  clear hu hI hru hrw hrr hcw hcr ht hn
  obtain ⟨least, first, count⟩ := st
  simp only at hst
  by_cases c1 : n < least
  · rw [if_pos c1] at hst
    obtain rfl := Option.some.inj hst
    have d1 : decide (n < least) = true := decide_eq_true c1
    clear hst c1
    go_enter Try.func58, Try.ntmps58
    go_wp2_with (first | (go_at_call 59; refine hct.mono ?_; rintro e w1 ⟨x1, rfl, hR, hb⟩; obtain ⟨A1, cc1, rfl⟩ := Kd.R_slice hR; have hR1 := Kd.R_reads' hR) | (go_at_call 46; refine (hcm _ _ _ hR1.2.2 hR1.2.1).mono ?_; rintro e w2 ⟨rfl, hb2⟩; have hb3 := below_step hb hb2; have hI2 := HI.out.step hb3; have f7 := cell_of_one hI2.h7; have f8 := cell_of_one hI2.h8; have f9 := cell_of_one hI2.h9; have g7 := free_of_one hI2.h7; have g8 := free_of_one hI2.h8; have g9 := free_of_one hI2.h9))
    go_end0
    exact ⟨rfl, ⟨_, hI2.put n _ s 1 (Kd.R_below HU.out hb3)⟩, impl_leastTime.kept_put hb3 n _ 1⟩
  · rw [if_neg c1] at hst
    have d1 : decide (n < least) = false := decide_eq_false c1
    clear c1
    by_cases c2 : n = least
    · rw [if_pos c2] at hst
      obtain rfl := Option.some.inj hst
      clear hst
      subst c2
      go_enter Try.func58, Try.ntmps58
      go_wp2_with (first | (go_at_call 59; refine hct.mono ?_; rintro e w1 ⟨x1, rfl, hR, hb⟩; obtain ⟨A1, cc1, rfl⟩ := Kd.R_slice hR; have hR1 := Kd.R_reads' hR) | (go_at_call 46; refine (hcm _ _ _ hR1.2.2 hR1.2.1).mono ?_; rintro e w2 ⟨rfl, hb2⟩; have hb3 := below_step hb hb2; have hI2 := HI.out.step hb3; have f7 := cell_of_one hI2.h7; have f8 := cell_of_one hI2.h8; have f9 := cell_of_one hI2.h9; have g7 := free_of_one hI2.h7; have g8 := free_of_one hI2.h8; have g9 := free_of_one hI2.h9))
      go_end0
      exact ⟨rfl, ⟨_, hI2.put9 _⟩, impl_leastTime.kept_put9 hb3 _⟩
    · rw [if_neg c2] at hst
      obtain rfl := Option.some.inj hst
      have d2 : (n == least) = false := beq_eq_false_iff_ne.2 c2
      clear hst c2
      go_enter Try.func58, Try.ntmps58
      go_wp2_with (first | (go_at_call 59; refine hct.mono ?_; rintro e w1 ⟨x1, rfl, hR, hb⟩; obtain ⟨A1, cc1, rfl⟩ := Kd.R_slice hR; have hR1 := Kd.R_reads' hR) | (go_at_call 46; refine (hcm _ _ _ hR1.2.2 hR1.2.1).mono ?_; rintro e w2 ⟨rfl, hb2⟩; have hb3 := below_step hb hb2; have hI2 := HI.out.step hb3; have f7 := cell_of_one hI2.h7; have f8 := cell_of_one hI2.h8; have f9 := cell_of_one hI2.h9; have g7 := free_of_one hI2.h7; have g8 := free_of_one hI2.h8; have g9 := free_of_one hI2.h9))
      go_end0
      exact ⟨rfl, ⟨_, hI2⟩, Kept.of_below hb3 _⟩
theorem impl_leastTime.vis_append (k : Nat) (ws rs : List Int) (l2 : List (List Int)) : ∀ (l1 : List (List Int)) (st : impl_leastTime.St), impl_leastTime.vis k ws rs (l1 ++ l2) st = (impl_leastTime.vis k ws rs l1 st).bind (impl_leastTime.vis k ws rs l2)
  | [], _ => rfl
  | s :: l, st => by
    show (impl_leastTime.step k ws rs st s).bind _ = _
    rw [show impl_leastTime.vis k ws rs (s :: l) st = (impl_leastTime.step k ws rs st s).bind fun st' => impl_leastTime.vis k ws rs l st' from rfl, Option.bind_assoc]
    congr 1
    funext st'
    exact impl_leastTime.vis_append k ws rs l2 l st'
def impl_leastTime.rest (p b : Nat) (begin_ : List Int) (i d : Nat) : List (List Int) := (List.range' i d).flatMap fun n => impl_leastTime.sh p (b - n) (begin_ ++ [(n : Int)])
theorem impl_leastTime.rest_succ (p b : Nat) (begin_ : List Int) (i d : Nat) : impl_leastTime.rest p b begin_ i (d + 1) = impl_leastTime.sh p (b - i) (begin_ ++ [(i : Int)]) ++ impl_leastTime.rest p b begin_ (i + 1) d := by
  unfold impl_leastTime.rest
  rw [List.range'_succ, List.flatMap_cons]
set_option maxRecDepth 100000 in
set_option maxHeartbeats 8000000 in
theorem impl_leastTime.shares (k : Nat) {w0 : World} {Aw : Option Addr} {cw : Nat} {Ar : Option Addr} {cr : Nat} (ws rs : List Int)
    (hrw : Kd.C (Kd.int .i64) w0 Aw ws.length ws) (hcw : ws.length ≤ cw) (hrr : Kd.C (Kd.int .i64) w0 Ar rs.length rs) (hcr : rs.length ≤ cr) : ∀ (p b : Nat) (begin_ : List Int) (u v : Value) (w : World) (st st' : impl_leastTime.St), impl_leastTime.Inv w0 w Aw cw ws.length Ar cr rs.length st v →
    (Kd.int .i64).R 3 w w0.heap.size (fun k => ¬ impl_leastTime.S w0.heap.size k) u begin_ → begin_.length + p ≤ 200 → b ≤ 1000 → p ≤ 100 → impl_leastTime.vis k ws rs (impl_leastTime.sh p b begin_) st = some st' →
    Calls Try.prog 57 #[.int .i64 (b : Int), .int .i64 ((p : Int) + 1), u, .func (.func 58) #[] #[.pointer (some ⟨w0.heap.size, 0, none⟩), .pointer (some ⟨w0.heap.size + 1, 0, none⟩), .pointer (some ⟨w0.heap.size + 3, 0, none⟩), .pointer (some ⟨w0.heap.size + 4, 0, none⟩), .pointer (some ⟨w0.heap.size + 5, 0, none⟩)]] w
      fun e w' => e = .returned (.tuple #[]) ∧ (∃ v', impl_leastTime.Inv w0 w' Aw cw ws.length Ar cr rs.length st' v') ∧ Kept w w' (impl_leastTime.S w0.heap.size) := by
  have eg : ∀ args w, (callFunc 58 args).run Try.prog w = .ok (.enter 58 args) w := enters_of Try.func58 (by kernel_rfl) rfl
  intro p
  induction p with
  | zero =>
    intro b begin_ u v w st st' hI hu hl hb hp hv
    obtain ⟨A, c, rfl⟩ := Kd.R_slice hu
    have hvis := fun w1 v1 hI1 hu1 => impl_leastTime.visit k (w0 := w0) (w := w1) ws rs st st' v v1 (begin_ ++ [(b : Int)]) hI1 hrw hcw hrr hcr hu1 (by
      unfold impl_leastTime.sh impl_leastTime.vis at hv
      obtain ⟨s1, h1, h2⟩ := Option.bind_eq_some_iff.mp hv
      rw [h1, ← h2]; rfl)
    have hR := Kd.R_take hu (Nat.le_refl _)
    have hcap := (Kd.R_reads' hu).2.1
    have HU := Aside0.mk hu
    have HI := Aside0.mk hI
    have h6 := hI.size
    have d0 : ((0 : Nat) : Int) + 1 = 1 := rfl
    rw [d0]
    obtain ⟨i0, hi0, _, hsz0, _⟩ := info_parts info3
    have hcut := cut_full Try.underlying22 hi0 hsz0 A begin_.length c hcap
    clear hu hI hv hrw hrr hcw hcr hR hi0 hsz0
    go_enter Try.func57, Try.ntmps57
    go_wp2_with (first | ((with_reducible refine gate_builtin (b := .append) (xs := #[.tmp 17, .tmp 19]) rfl ?_); go_loud (at_builtin; refine wp_append_fresh (w0 := w0) w0.heap.size rfl (.tmp 17) (.tmp 19) 22 3 (.int .i64 0) 8 rfl Try.underlying22 info3 rfl (by decide) A begin_ (b : Int) (fun k => ¬ impl_leastTime.S w0.heap.size k) rfl rfl ?aF ?aO ?aS ?aL ?_; (case aF => intro k hk; unfold impl_leastTime.S; omega); (case aO => exact (Kd.R_reads' HU.out).2.2); (case aS => omega); (case aL => omega); intro v1 w1 hR1 hb1; have hI1 := HI.out.step hb1)) | (go_at_fn 58; go_loud (refine (hvis _ _ hI1 hR1).mono ?_; rintro e w' ⟨rfl, hI2, hk⟩)))
    refine bodyPost_ret (results_none rfl _ _ _) rfl ?_
    exact ⟨rfl, hI2, (Kept.of_below hb1 _).then_ hk (fun _ h => .inl h)⟩
  | succ p ih =>
    intro b begin_ u v w st st' hI hu hl hb hp hv
    obtain ⟨A, c, rfl⟩ := Kd.R_slice hu
    have hcap := (Kd.R_reads' hu).2.1
    have hv0 : impl_leastTime.vis k ws rs (impl_leastTime.rest p b begin_ 0 (b + 1)) st = some st' := by
      rw [← hv]
      show impl_leastTime.vis k ws rs (List.flatMap _ (List.range' 0 (b + 1))) st = impl_leastTime.vis k ws rs (List.flatMap _ (List.range (b + 1))) st
      rw [List.range_eq_range']
    have HU := Aside0.mk hu
    have HI := Aside0.mk hI
    have HV := Aside0.mk hv0
    have HIH := Aside0.mk ih
    have d0 : (((p + 1 : Nat) : Int) + 1 == 1) = false := beq_eq_false_iff_ne.2 (by omega)
    obtain ⟨i0, hi0, _, hsz0, _⟩ := info_parts info3
    have hcut := cut_full Try.underlying22 hi0 hsz0 A begin_.length c hcap
    clear hu hI hv hrw hrr hcw hcr hi0 hsz0 hv0 ih
    go_enter Try.func57, Try.ntmps57
    go_wp2
    go_loopg [8, 24] (b + 1) (fun gg _ s24 wr => ∃ (i : Nat) (sti : impl_leastTime.St) (vi : Value), s24 = .int .i64 (i : Int) ∧ i ≤ b + 1 ∧ b + 1 - i ≤ gg ∧ Aside0 (impl_leastTime.vis k ws rs (impl_leastTime.rest p b begin_ i (b + 1 - i)) sti = some st') ∧ Aside0 (impl_leastTime.Inv w0 wr Aw cw ws.length Ar cr rs.length sti vi) ∧ Aside0 (Kept w wr (impl_leastTime.S w0.heap.size)))
    case atStart => exact ⟨0, st, v, by go_num, Nat.zero_le _, by omega, HV, HI, ⟨Kept.refl _ _⟩⟩
    case round =>
      clear HV
      obtain ⟨i, sti, vi, rfl, hib, hgg, HVi, HIi, HK⟩ := hrel
      by_cases hlt : i < b + 1
      · have d1 : decide ((i : Int) < (b : Int) + 1) = true := decide_eq_true (by omega)
        have hi1 : b + 1 - i = (b + 1 - (i + 1)) + 1 := by omega
        have hvi := HVi.out
        rw [hi1, impl_leastTime.rest_succ, impl_leastTime.vis_append] at hvi
        obtain ⟨st1, hv1, hv2⟩ := Option.bind_eq_some_iff.mp hvi
        have hub := Kd.R_step (w1 := wr) HU.out (fun k hk hlt => HK.out.2 k hlt hk)
        have h6 := HIi.out.size
        have HUi := Aside0.mk hub
        have HV1 := Aside0.mk hv1
        have HV2 := Aside0.mk hv2
        clear hub hv1 hv2 hvi HVi hi1
        have hbi : ((b : Int) - (i : Int)) = ((b - i : Nat) : Int) := by omega
        go_wp2_with (first | ((with_reducible refine gate_builtin (b := .append) (xs := #[.tmp 37, .tmp 39]) rfl ?_); go_loud (at_builtin; refine wp_append_fresh (w0 := w0) w0.heap.size rfl (.tmp 37) (.tmp 39) 22 3 (.int .i64 0) 8 rfl Try.underlying22 info3 rfl (by decide) A begin_ (i : Int) (fun k => ¬ impl_leastTime.S w0.heap.size k) rfl rfl ?aF ?aO ?aS ?aL ?_; (case aF => intro k hk; unfold impl_leastTime.S; omega); (case aO => exact (Kd.R_reads' HUi.out).2.2); (case aS => omega); (case aL => omega); intro v1 w1 hR1 hb1; have hI1 := HIi.out.step hb1)) | (go_at_call 57; go_loud (refine (HIH.out (b - i) (begin_ ++ [(i : Int)]) v1 vi w1 sti st1 hI1 hR1 (by rw [List.length_append, List.length_singleton]; omega) (by omega) (by omega) HV1.out).mono ?_; rintro e w' ⟨rfl, ⟨v2, hI2⟩, hk⟩)))
        go_roundg (b + 1 - (i + 1))
        case measure => omega
        case rel => exact ⟨i + 1, st1, v2, by go_num, by omega, Nat.le_refl _, HV2, ⟨hI2⟩, ⟨HK.out.then_ ((Kept.of_below hb1 _).then_ hk (fun _ h => .inl h)) (fun _ h => .inl h)⟩⟩
      · have d1 : decide ((i : Int) < (b : Int) + 1) = false := decide_eq_false (by omega)
        have e0 : b + 1 - i = 0 := by omega
        have hvi := HVi.out
        rw [e0] at hvi
        have hvi2 : some sti = some st' := hvi
        obtain rfl := Option.some.inj hvi2
        have HE := Aside0.mk HIi.out
        clear hvi hvi2 HVi e0
        go_wp2
        go_end0
        exact ⟨rfl, ⟨_, HE.out⟩, HK.out⟩
theorem impl_leastTime.mono_step (k : Nat) (ws rs : List Int) (st : impl_leastTime.St) (s : List Int) : LeO (impl_leastTime.step k ws rs st s) (impl_leastTime.step (k + 1) ws rs st s) :=
  LeO.bind (impl_times.mono ws rs s k) (fun _ => LeO.bind (slices_Max_int_int.mono _ k) (fun _ => LeO.refl _))
theorem impl_leastTime.mono_vis (k : Nat) (ws rs : List Int) : ∀ (l : List (List Int)) (st : impl_leastTime.St), LeO (impl_leastTime.vis k ws rs l st) (impl_leastTime.vis (k + 1) ws rs l st)
  | [], _ => LeO.refl _
  | s :: l, st => LeO.bind (impl_leastTime.mono_step k ws rs st s) (fun _ => impl_leastTime.mono_vis k ws rs l _)
theorem impl_leastTime.mono : ∀ a0 a1 k, LeO (impl_leastTime.f k a0 a1) (impl_leastTime.f (k + 1) a0 a1) := by
  intro a0 a1 k
  unfold impl_leastTime.f
  refine LeO.ite ?_ (LeO.refl _)
  exact impl_leastTime.mono_vis k a0 a1 _ _
theorem impl_leastTime.start (w : World) (A0 : Option Addr) (c0 n0 : Nat) (A1 : Option Addr) (c1 n1 : Nat) (N : Int) :
    impl_leastTime.Inv w ((((((w.alloc (.cells #[.slice A0 n0 c0] 22)).alloc (.cells #[.slice A1 n1 c1] 22)).alloc (.cells #[] 3)).alloc (.cells #[.int .i64 N] 3)).alloc (.cells #[.slice (some ⟨w.heap.size + 1 + 1, 0, none⟩) 0 0] 22)).alloc (.cells #[.int .i64 0] 3)) A0 c0 n0 A1 c1 n1 (N, [], 0) (.slice (some ⟨w.heap.size + 1 + 1, 0, none⟩) 0 0) := by
  have s1 : (w.alloc (.cells #[.slice A0 n0 c0] 22)).heap.size = w.heap.size + 1 := by simp
  have b1 := blk_new w (.cells #[.slice A0 n0 c0] 22 (0, 0))
  have e1 := below_alloc (Below.refl w.heap.size w) (.cells #[.slice A0 n0 c0] 22 (0, 0))
  generalize w.alloc (.cells #[.slice A0 n0 c0] 22) = w1 at s1 b1 e1 ⊢
  have s2 : (w1.alloc (.cells #[.slice A1 n1 c1] 22)).heap.size = w.heap.size + 2 := by simp [s1]
  have b2 := blk_new w1 (.cells #[.slice A1 n1 c1] 22 (0, 0))
  replace b1 := blk_alloc b1 (.cells #[.slice A1 n1 c1] 22 (0, 0))
  replace e1 := below_alloc e1 (.cells #[.slice A1 n1 c1] 22 (0, 0))
  rw [s1] at b2
  generalize w1.alloc (.cells #[.slice A1 n1 c1] 22) = w2 at s2 b1 b2 e1 ⊢
  have s3 : (w2.alloc (.cells #[] 3)).heap.size = w.heap.size + 3 := by simp [s2]
  have b3 := blk_new w2 (.cells #[] 3 (0, 0))
  replace b1 := blk_alloc b1 (.cells #[] 3 (0, 0))
  replace b2 := blk_alloc b2 (.cells #[] 3 (0, 0))
  replace e1 := below_alloc e1 (.cells #[] 3 (0, 0))
  rw [s2] at b3
  generalize w2.alloc (.cells #[] 3) = w3 at s3 b1 b2 b3 e1 ⊢
  have s4 : (w3.alloc (.cells #[.int .i64 N] 3)).heap.size = w.heap.size + 4 := by simp [s3]
  have b4 := blk_new w3 (.cells #[.int .i64 N] 3 (0, 0))
  replace b1 := blk_alloc b1 (.cells #[.int .i64 N] 3 (0, 0))
  replace b2 := blk_alloc b2 (.cells #[.int .i64 N] 3 (0, 0))
  replace b3 := blk_alloc b3 (.cells #[.int .i64 N] 3 (0, 0))
  replace e1 := below_alloc e1 (.cells #[.int .i64 N] 3 (0, 0))
  rw [s3] at b4
  generalize w3.alloc (.cells #[.int .i64 N] 3) = w4 at s4 b1 b2 b3 b4 e1 ⊢
  have s5 : (w4.alloc (.cells #[.slice (some ⟨w.heap.size + 1 + 1, 0, none⟩) 0 0] 22)).heap.size = w.heap.size + 5 := by simp [s4]
  have b5 := blk_new w4 (.cells #[.slice (some ⟨w.heap.size + 1 + 1, 0, none⟩) 0 0] 22 (0, 0))
  replace b1 := blk_alloc b1 (.cells #[.slice (some ⟨w.heap.size + 1 + 1, 0, none⟩) 0 0] 22 (0, 0))
  replace b2 := blk_alloc b2 (.cells #[.slice (some ⟨w.heap.size + 1 + 1, 0, none⟩) 0 0] 22 (0, 0))
  replace b3 := blk_alloc b3 (.cells #[.slice (some ⟨w.heap.size + 1 + 1, 0, none⟩) 0 0] 22 (0, 0))
  replace b4 := blk_alloc b4 (.cells #[.slice (some ⟨w.heap.size + 1 + 1, 0, none⟩) 0 0] 22 (0, 0))
  replace e1 := below_alloc e1 (.cells #[.slice (some ⟨w.heap.size + 1 + 1, 0, none⟩) 0 0] 22 (0, 0))
  rw [s4] at b5
  generalize w4.alloc (.cells #[.slice (some ⟨w.heap.size + 1 + 1, 0, none⟩) 0 0] 22) = w5 at s5 b1 b2 b3 b4 b5 e1 ⊢
  have s6 : (w5.alloc (.cells #[.int .i64 0] 3)).heap.size = w.heap.size + 6 := by simp [s5]
  have b6 := blk_new w5 (.cells #[.int .i64 0] 3 (0, 0))
  rw [s5] at b6
  have hb3 := blk_alloc b3 (.cells #[.int .i64 0] 3 (0, 0))
  refine ⟨below_alloc e1 _, by rw [s6]; exact Nat.le_refl _, blk_alloc b1 _, blk_alloc b2 _, blk_alloc b4 _, blk_alloc b5 _, b6, ?_⟩
  refine Kd.R_of_own (xs := ([] : List Int)) ⟨rfl, .inr ⟨w.heap.size + 2, 0, #[], rfl, by omega, hb3, Nat.le_refl _, Nat.zero_le _, rfl, rfl⟩⟩ (fun k hk => ?_)
  have : w.heap.size + 1 + 1 = k := by simpa [Value.ownBlock] using hk
  unfold impl_leastTime.S
  omega
set_option maxRecDepth 100000 in
set_option maxHeartbeats 8000000 in
theorem impl_leastTime.calls (k : Nat) (A0 : Option Addr) (c0 : Nat) (l0 : List Int) (A1 : Option Addr) (c1 : Nat) (l1 : List Int) (r1 : Int) (r2 : List Int) (r3 : Int) (w : World) (hr0 : Kd.C (Kd.int .i64) w A0 l0.length l0) (hc0 : l0.length ≤ c0) (hr1 : Kd.C (Kd.int .i64) w A1 l1.length l1) (hc1 : l1.length ≤ c1) (h : impl_leastTime.f k l0 l1 = some (r1, r2, r3)) :
    Calls Try.prog 34 #[.slice A0 l0.length c0, .slice A1 l1.length c1] w fun e w' => ∃ v0_ : Value, e = .returned (.tuple #[.int .i64 r1, v0_, .int .i64 r3]) ∧ Kd.R (Kd.int .i64) 3 w' w.heap.size (fun _ => True) v0_ r2 ∧ Below w.heap.size w w' := by
  unfold impl_leastTime.f at h
  by_cases hb : 1 ≤ l1.length ∧ l1.length ≤ 100 ∧ l0.length ≤ 1000
  · rw [if_pos hb] at h
    obtain ⟨p, hp⟩ : ∃ p, l1.length = p + 1 := ⟨l1.length - 1, by omega⟩
    rw [hp, Nat.add_sub_cancel] at h
    have hsh := fun u v w1 hI hu => impl_leastTime.shares k (w0 := w) (Aw := A0) (cw := c0) (Ar := A1) (cr := c1) l0 l1 hr0 hc0 hr1 hc1 p l0.length [] u v w1 (1099511627776, [], 0) (r1, r2, r3) hI hu (by simp; omega) hb.2.2 (by omega) h
    rw [hp] at hsh ⊢
    clear h hr0 hr1 hc0 hc1
    have hmf : ∀ (fn : Fn) (first cap : Array Value) (w : World), (Instr.makeFunc fn first cap).run Try.prog w = .ok (.func fn first cap) w := fun _ _ _ _ => rfl
    go_enter Try.func34, Try.ntmps34
    go_wp2_with (first | (go_at_call 57; go_loud (refine (hsh _ _ _ (impl_leastTime.start w A0 c0 l0.length A1 c1 (p + 1) 1099511627776) (Kd.R_nil _ _ _ _ _)).mono ?_; rintro e w' ⟨rfl, ⟨v2, hI2⟩, hk⟩; have f7 : w'.cell? ⟨w.heap.size + 1 + 1 + 1, 0, none⟩ = some (.int .i64 r1) := cell_of_one hI2.h7; have f8 : w'.cell? ⟨w.heap.size + 1 + 1 + 1 + 1, 0, none⟩ = some v2 := cell_of_one hI2.h8; have f9 : w'.cell? ⟨w.heap.size + 1 + 1 + 1 + 1 + 1, 0, none⟩ = some (.int .i64 r3) := cell_of_one hI2.h9)))
    repeat (go_quiet (fail); try go_wp2)
    go_ret3
    exact ⟨_, rfl, Kd.R_drewN (Kd.R_mono hI2.row (fun _ _ => trivial)) _, pw_below_drewN hI2.below _⟩
  · rw [if_neg hb] at h
    exact absurd h (by simp)

end Go.Proofs.Ytcnancjkajbldaa.P
