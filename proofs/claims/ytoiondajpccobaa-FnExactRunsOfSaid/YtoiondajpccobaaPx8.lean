-- Printed by wip/pp.py of this claim's session (the kit's print over functions that are given by hand). Not trusted: Lean checks it.
import Derived.Test.YtoiondajpccobaaPx0
import Derived.Test.YtoiondajpccobaaPx6
namespace Go.Proofs.Ytoiondajpccobaa.P
open Go.RowKit Go.Proofs.YtoiondajpccobaaW.PrintWords Go.Proofs.YtoiondajpccobaaW.PrintLast Go.Proofs.YtoiondajpccobaaW.PrintMore
attribute [local go_sem] max2_int min2_int max_two min_two max_three min_three max_four min_four   -- for this text's walks alone
set_option linter.unusedVariables false
set_option linter.unusedSimpArgs false

/-! ### impl_colouredRuns: function 53 (given) -/
/-- Is a run bare? -/
def bareB (s : S52) : Bool := s.f2.toList == ([46] : List UInt8)
def impl_colouredRuns.f (k : Nat) (a0 : ByteArray) : Option (List S52) := (impl_runsOf.f k a0).bind fun l => some (l.filter fun s => !bareB s)
theorem impl_colouredRuns.mono : ∀ a0 k, LeO (impl_colouredRuns.f k a0) (impl_colouredRuns.f (k + 1) a0) := fun a0 k => LeO.bind (impl_runsOf.mono a0 k) (fun _ => LeO.refl _)
set_option maxRecDepth 100000 in
theorem impl_colouredRuns.pred (W : World) (s : S52) : Calls Try.prog 76 (#[.agg #[.int .i64 s.f0, .int .i64 s.f1, .string s.f2]] ++ #[]) W fun e w' => e = .returned (.bool (bareB s)) ∧ Below W.heap.size W w' := by
  obtain ⟨x0, x1, x2⟩ := s
  show Calls Try.prog 76 #[.agg #[.int .i64 x0, .int .i64 x1, .string x2]] W fun e w' => e = .returned (.bool (x2.toList == ([46] : List UInt8))) ∧ Below W.heap.size W w'
  have HB := Aside0.mk (Below.refl W.heap.size W)
  go_enter Try.func76, Try.ntmps76
  go_wp2
  go_ret
  exact ⟨rfl, by repeat (first | exact HB.out | apply below_alloc | apply pw_below_drewN | apply below_drew1)⟩
/-- Where the first bare run lies; -1 if there is none. -/
def impl_colouredRuns.at (l : List S52) : Int := match l.findIdx? bareB with | some i => (i : Int) | none => -1
theorem impl_colouredRuns.at_hit (l : List S52) (k : Nat) (hk : k < l.length) (hp : bareB l[k] = true) (h : ∀ j, j < k → bareB (l.getD j z52) = false) : impl_colouredRuns.at l = (k : Int) := by
  have h1 : l.findIdx? bareB = some k := by
    rw [List.findIdx?_eq_some_iff_getElem]
    refine ⟨hk, hp, fun j hj => ?_⟩
    have := h j hj
    rw [List.getD_eq_getElem?_getD, List.getElem?_eq_getElem (show j < l.length by omega)] at this
    simpa using this
  unfold impl_colouredRuns.at
  rw [h1]
theorem impl_colouredRuns.at_miss (l : List S52) (h : ∀ j, j < l.length → bareB (l.getD j z52) = false) : impl_colouredRuns.at l = -1 := by
  have h1 : l.findIdx? bareB = none := by
    rw [List.findIdx?_eq_none_iff]
    intro x hx
    obtain ⟨j, hj, rfl⟩ := List.getElem_of_mem hx
    have := h j hj
    rw [List.getD_eq_getElem?_getD, List.getElem?_eq_getElem hj] at this
    simpa using this
  unfold impl_colouredRuns.at
  rw [h1]
set_option maxRecDepth 100000 in
set_option maxHeartbeats 2000000 in
theorem impl_colouredRuns.ix (A : Option Addr) (c : Nat) (l : List S52) (w : World) (hr : Kd.C k52 w A l.length l) :
    Calls Try.prog 88 #[.slice A l.length c, .func (.func 76) #[] #[]] w fun e w' => e = .returned (.int .i64 (impl_colouredRuns.at l)) ∧ Below w.heap.size w w' := by
  have eg : ∀ args w, (callFunc 76 args).run Try.prog w = .ok (.enter 76 args) w := enters_of Try.func76 (by kernel_rfl) rfl
  have hbig := Kd.C_max hr
  have Hhit := impl_colouredRuns.at_hit l
  have Hmiss := impl_colouredRuns.at_miss l
  generalize impl_colouredRuns.at l = res at Hhit Hmiss ⊢
  have HH := Aside0.mk Hhit
  have HM := Aside0.mk Hmiss
  have HR := Aside0.mk hr
  have HB := Aside0.mk (Below.refl w.heap.size w)
  clear Hhit Hmiss hr
  have hu52 := Try.underlying52
  go_enter Try.func88, Try.ntmps88
  go_wp2
  go_loopg [5, 8] l.length (fun gg _ s8 wr => ∃ kk : Nat, kk ≤ l.length ∧ l.length - kk ≤ gg ∧ s8 = .int .i64 kk ∧ Aside0 (Below w.heap.size w wr) ∧ Aside0 (∀ j, j < kk → bareB (l.getD j z52) = false))
  case atStart => exact ⟨0, Nat.zero_le _, by omega, rfl, HB, ⟨fun j hj => absurd hj (Nat.not_lt_zero _)⟩⟩
  case round =>
    clear HB
    obtain ⟨kk, hkk, hg, rfl, HB, B⟩ := hrel
    by_cases hlt : kk < l.length
    · have hltz := eq_true (show (kk : Int) < (l.length : Int) by omega)
      have h0z := eq_true (show 0 ≤ (kk : Int) by omega)
      have d1 : decide ((kk : Int) < (l.length : Int)) = true := decide_eq_true (by omega)
      obtain ⟨ad, e, hx0, hx1, hx2⟩ := at_T52 (Kd.C_below HR.out HB.out) (kk : Int) (by omega) (by omega)
      cases e
      rw [Int.toNat_natCast] at hx0 hx1 hx2
      have hy0 : l[kk] = rd_T52 l (kk : Int) := by
        show l[kk] = l.getD kk z52
        rw [List.getD_eq_getElem?_getD, List.getElem?_eq_getElem hlt]; rfl
      have hy1 : l.getD kk z52 = rd_T52 l (kk : Int) := rfl
      have H0 := Aside0.mk hy0
      have H1 := Aside0.mk hy1
      clear hy0 hy1
      generalize rd_T52 l (kk : Int) = y at hx0 hx1 hx2 H0 H1
      have hcall := fun W => impl_colouredRuns.pred W y
      cases hq : bareB y with
      | true =>
        rw [hq] at hcall
        have Q := Aside0.mk hq
        clear hq
        go_wp2_with (go_at_fn 76; refine (hcall _).mono ?_; rintro e w' ⟨rfl, hb⟩)
        go_ret
        refine ⟨?_, below_step HB.out hb⟩
        rw [HH.out kk hlt (by rw [H0.out]; exact Q.out) B.out]
        rfl
      | false =>
        rw [hq] at hcall
        have Q := Aside0.mk hq
        clear hq
        go_wp2_with (go_at_fn 76; refine (hcall _).mono ?_; rintro e w' ⟨rfl, hb⟩)
        go_roundg (l.length - (kk + 1))
        case measure => omega
        case rel =>
          refine ⟨kk + 1, by omega, by omega, by go_num, ⟨below_step HB.out hb⟩, ⟨fun j hj => ?_⟩⟩
          by_cases e : j = kk
          · subst e
            rw [H1.out]; exact Q.out
          · exact B.out j (by omega)
    · have d1 : decide ((kk : Int) < (l.length : Int)) = false := decide_eq_false (by omega)
      have hkl : kk = l.length := by omega
      have K := Aside0.mk hkl
      clear hkl
      go_wp2
      go_ret
      refine ⟨?_, HB.out⟩
      rw [HM.out (by rw [← K.out]; exact B.out)]
      rfl
theorem R_clear {α : Type} {d : Kd α} {e m n c g base : Nat} {W : World} {ok : Nat → Prop} {xs : List α} {seg : List Value} (h : d.R e W base ok (.slice (some ⟨g, 0, none⟩) n c) xs) (hm : m ≤ xs.length) (hfit : m * d.sz + seg.length ≤ c * d.sz) :
    d.R e (W.setCells g (m * d.sz) seg) base ok (.slice (some ⟨g, 0, none⟩) m c) (xs.take m) := by
  obtain ⟨h0, inner, ho, hr⟩ := Kd.R_take h hm
  have hgo : some g = (Value.slice (some ⟨g, 0, none⟩) m c).ownBlock := by simp [Value.ownBlock]
  have hlm : (xs.take m).length = m := by rw [List.length_take]; omega
  refine ⟨h0, inner, ?_, hr.imp_ (fun _ _ hp => d.M_move (fun k hk => setCells_far _ _ k (fun he => hk.2 (by rw [he]; exact hgo))) hp)⟩
  rw [hlm] at ho ⊢
  obtain ⟨hl, hc⟩ := ho
  refine ⟨hl, ?_⟩
  rcases hc with ⟨hv, _⟩ | ⟨g', cap, cur, hv, hb, hh, hnc, hcm, hcs, htk⟩
  · cases hv
  injection hv with ha _ hcap
  injection ha with ha
  injection ha with hg
  subst hg; subst hcap
  obtain ⟨cur', h3, h4, h5⟩ := setCells_row seg (m * d.sz) W cur hh (by rw [hcs]; exact hfit)
  have hfit2 : m * d.sz ≤ cur.toList.length := by
    rw [Array.length_toList, hcs]
    exact Nat.mul_le_mul_right _ hnc
  refine .inr ⟨g, c, cur', rfl, hb, h3, hnc, hcm, by rw [h4, hcs], ?_⟩
  rw [h5, List.append_assoc, List.take_append_of_le_length (by rw [List.length_take, Nat.min_eq_left hfit2]; exact Nat.le_refl _), List.take_take, Nat.min_self]
  exact htk
theorem clear_below {w0 w : World} {base g o : Nat} {seg : List Value} (h : Below base w0 w) (hg : base ≤ g) : Below base w0 (w.setCells g o seg) := by
  obtain ⟨s1, s2, s3, s4⟩ := setCells_same g seg o w
  exact ⟨s1.trans h.os, s2.trans h.tape, s3.trans h.output, by rw [s4]; exact h.size, fun k hk => (setCells_far _ _ k (by omega)).trans (h.block k hk)⟩
theorem clear_run {P : Program} {w : World} {g e t o n c : Nat} {cur : Array Value} {zc : Value} (ht : P.underlying t = some (.slice e)) (hv : ∀ w, (zeroValue e).run P w = .ok zc w) (h1 : ∀ q ∈ zc.cells.toList, q.oneCell' = true) (hh : w.heap[g]? = some (.cells cur e (0, 0))) (hn : 0 < n)
    (hfit : o + (Builtin.zeroCells zc.cells n).toList.length ≤ cur.size) (h2 : ∀ q ∈ (Builtin.zeroCells zc.cells n).toList, q.oneCell' = true) :
    ∀ ty, (Builtin.clear_ #[t] ty #[.slice (some ⟨g, o, none⟩) n c]).run P w = .ok (.tuple #[]) (w.setCells g o (Builtin.zeroCells zc.cells n).toList) := by
  intro ty
  have hst := run_storeCells_cells (P := P) g o (Builtin.zeroCells zc.cells n).toList 0 w (fun j hj => by rw [cell_of_row w g _ cur e (0, 0) hh]; simp; omega) (fun j _ => blk_frozen hh _) h2
  simp only [Nat.add_zero] at hst
  obtain ⟨m, rfl⟩ : ∃ m, n = m + 1 := ⟨n - 1, by omega⟩
  simp [Builtin.clear_, run_underlying ht, hv, hst]
def nb (s : S52) : Bool := !bareB s
structure Left (l cur : List S52) (i j : Nat) : Prop where
  len : cur.length = l.length
  lt : i < j
  top : j ≤ l.length
  low : cur.take i = (l.take j).filter nb
  high : cur.drop j = l.drop j
theorem Left.at {l cur : List S52} {i j : Nat} (h : Left l cur i j) (hj : j < l.length) : cur.getD j z52 = l.getD j z52 := by
  have h1 := congrArg List.head? h.high
  rw [List.head?_drop, List.head?_drop] at h1
  rw [List.getD_eq_getElem?_getD, List.getD_eq_getElem?_getD, h1]
theorem Left.next {l cur : List S52} {i j : Nat} (h : Left l cur i j) : cur.drop (j + 1) = l.drop (j + 1) := by
  have h1 := congrArg (List.drop 1) h.high
  rwa [List.drop_drop, List.drop_drop] at h1
theorem getD_get (l : List S52) (j : Nat) (hj : j < l.length) : l[j] = l.getD j z52 := by
  rw [List.getD_eq_getElem?_getD, List.getElem?_eq_getElem hj]; rfl
theorem Left.skip {l cur : List S52} {i j : Nat} (h : Left l cur i j) (hj : j < l.length) (hb : bareB (l.getD j z52) = true) : Left l cur i (j + 1) := by
  refine ⟨h.len, Nat.lt_succ_of_lt h.lt, hj, ?_, h.next⟩
  rw [h.low, List.take_succ_eq_append_getElem hj, List.filter_append, getD_get l j hj]
  generalize l.getD j z52 = x at hb ⊢
  simp [nb, hb]
theorem Left.keep {l cur : List S52} {i j : Nat} (h : Left l cur i j) (hj : j < l.length) (hb : bareB (l.getD j z52) = false) : Left l (cur.set i (l.getD j z52)) (i + 1) (j + 1) := by
  have hlt := h.lt
  have hlen := h.len
  have hi : i < cur.length := by omega
  refine ⟨by rw [List.length_set]; exact h.len, by omega, hj, ?_, ?_⟩
  · rw [List.take_succ_eq_append_getElem (by rw [List.length_set]; exact hi), List.getElem_set_self, List.take_set_of_le (Nat.le_refl _), h.low, List.take_succ_eq_append_getElem hj, List.filter_append, getD_get l j hj]
    generalize l.getD j z52 = x at hb ⊢
    simp [nb, hb]
  · rw [List.drop_set_of_lt (by omega)]
    exact h.next
theorem Left.start {l : List S52} {k : Nat} (hk : k < l.length) (hb : bareB (l.getD k z52) = true) (h : ∀ j, j < k → bareB (l.getD j z52) = false) : Left l l k (k + 1) := by
  refine ⟨rfl, by omega, hk, ?_, rfl⟩
  rw [List.take_succ_eq_append_getElem hk, List.filter_append, getD_get l k hk]
  have h1 : (l.take k).filter nb = l.take k := by
    rw [List.filter_eq_self]
    intro x hx
    obtain ⟨j, hj, rfl⟩ := List.getElem_of_mem hx
    rw [List.length_take] at hj
    rw [List.getElem_take, getD_get l j (by omega)]
    unfold nb
    rw [h j (by omega)]
    rfl
  rw [h1]
  generalize l.getD k z52 = x at hb ⊢
  simp [nb, hb]
theorem box3 {w w' : World} {a b c : Value} {t : Nat} (h : Below (w.alloc (.cells #[a, b, c] t)).heap.size (w.alloc (.cells #[a, b, c] t)) w') : w'.cell? ⟨w.heap.size, 0, none⟩ = some a ∧ w'.cell? ⟨w.heap.size, 1, none⟩ = some b ∧ w'.cell? ⟨w.heap.size, 2, none⟩ = some c := by
  have hs : w.heap.size < (w.alloc (.cells #[a, b, c] t)).heap.size := by simp
  exact ⟨(h.cell hs).trans (by rw [World.cell?_alloc_new]; rfl), (h.cell hs).trans (by rw [World.cell?_alloc_new]; rfl), (h.cell hs).trans (by rw [World.cell?_alloc_new]; rfl)⟩
theorem R_cells {α : Type} {d : Kd α} {e n c g base : Nat} {W : World} {ok : Nat → Prop} {xs : List α} (h : d.R e W base ok (.slice (some ⟨g, 0, none⟩) n c) xs) : ∃ cur, W.heap[g]? = some (.cells cur e (0, 0)) ∧ n ≤ c ∧ cur.size = c * d.sz ∧ base ≤ g := by
  obtain ⟨h0, inner, ho, hr⟩ := h
  obtain ⟨hl, hc⟩ := ho
  rcases hc with ⟨hv, _⟩ | ⟨g', cap, cur, hv, hb, hh, hnc, hcm, hcs, htk⟩
  · cases hv
  injection hv with ha hn hcap
  injection ha with ha
  injection ha with hg
  subst hg; subst hcap
  exact ⟨cur, hh, by omega, hcs, hb⟩
theorem zeroCells_one {z : Array Value} (h : ∀ q ∈ z.toList, q.oneCell' = true) (n : Nat) : ∀ q ∈ (Builtin.zeroCells z n).toList, q.oneCell' = true := by
  intro q hq
  simp only [Builtin.zeroCells] at hq
  simp at hq
  obtain ⟨a, ha, rfl⟩ := hq
  rcases Nat.eq_zero_or_pos z.size with h0 | hp
  · rw [h0] at ha
    omega
  · have hlt := Nat.mod_lt a hp
    rw [getElem!_pos z (a % z.size) hlt]
    exact h _ (by simp)
theorem store_all (seg c : List Value) (h : c.length = seg.length) : c.take 0 ++ seg ++ c.drop (0 + seg.length) = seg := by
  rw [List.take_zero, List.nil_append, Nat.zero_add, ← h, List.drop_length, List.append_nil]
set_option maxRecDepth 100000 in
set_option maxHeartbeats 8000000 in
theorem impl_colouredRuns.del (w0 w : World) (u : Value) (l : List S52) (hB : Below w0.heap.size w0 w) (hr : Kd.R k52 52 w w0.heap.size (fun _ => True) u l) :
    Calls Try.prog 75 #[u, .func (.func 76) #[] #[]] w fun e w' => ∃ v0_, e = .returned v0_ ∧ Kd.R k52 52 w' w0.heap.size (fun _ => True) v0_ (l.filter nb) ∧ Below w0.heap.size w0 w' := by
  have eg : ∀ args w, (callFunc 76 args).run Try.prog w = .ok (.enter 76 args) w := enters_of Try.func76 (by kernel_rfl) rfl
  have hu52 := Try.underlying52
  obtain ⟨A, c, rfl⟩ := Kd.R_slice hr
  have hix := impl_colouredRuns.ix A c l w (Kd.R_reads' hr).2.2
  have hmax := Kd.C_max (Kd.R_reads' hr).2.2
  have HO := Aside0.mk hr
  have HB := Aside0.mk hB
  clear hr hB
  by_cases hall : ∀ j, j < l.length → bareB (l.getD j z52) = false
  · rw [impl_colouredRuns.at_miss l hall] at hix
    have hf : l.filter nb = l := by
      rw [List.filter_eq_self]
      intro x hx
      obtain ⟨j, hj, rfl⟩ := List.getElem_of_mem hx
      rw [getD_get l j hj]
      unfold nb
      rw [hall j hj]
      rfl
    rw [hf]
    clear hall hf
    go_enter Try.func75, Try.ntmps75
    go_wp2_with (go_at_call 88; refine hix.mono ?_; rintro e w' ⟨rfl, hb⟩)
    go_ret
    exact ⟨_, rfl, Kd.R_below HO.out hb, below_step HB.out hb⟩
  · obtain ⟨k0, hk0, hb0, hbs⟩ : ∃ k, k < l.length ∧ bareB (l.getD k z52) = true ∧ ∀ j, j < k → bareB (l.getD j z52) = false := by
      cases hf : l.findIdx? bareB with
      | none =>
        refine absurd (fun j hj => ?_) hall
        rw [List.findIdx?_eq_none_iff] at hf
        rw [← getD_get l j hj]
        exact hf _ (List.getElem_mem hj)
      | some i =>
        rw [List.findIdx?_eq_some_iff_getElem] at hf
        obtain ⟨hi, hp, hlt⟩ := hf
        refine ⟨i, hi, by rw [← getD_get l i hi]; exact hp, fun j hj => ?_⟩
        have := hlt j hj
        rw [getD_get l j (by omega)] at this
        simpa using this
    rw [impl_colouredRuns.at_hit l k0 hk0 (by rw [getD_get l k0 hk0]; exact hb0) hbs] at hix
    have hst := Left.start hk0 hb0 hbs
    obtain ⟨g, cap, hv, hg1, hg2, hcells⟩ := Kd.R_form HO.out (by omega)
    injection hv with ha hn hcap
    subst ha hcap
    have hne1 : ((k0 : Int) == -1) = false := beq_eq_false_iff_ne.2 (by omega)
    have LS := Aside0.mk hst
    have GB := Aside0.mk hg1
    clear hall hb0 hbs hst hn hcells hg2
    go_enter Try.func75, Try.ntmps75
    go_wp2_with (go_at_call 88; refine hix.mono ?_; rintro e w1 ⟨rfl, hb⟩)
    go_loopg [5, 6, 7] l.length (fun gg s5 s6 _ wr => ∃ (i j : Nat) (cur : List S52), s5 = .int .i64 (i : Int) ∧ s6 = .int .i64 (j : Int) ∧ j ≤ l.length ∧ l.length - j ≤ gg ∧ Aside0 (Left l cur i j) ∧ Aside0 (Kd.R k52 52 wr w0.heap.size (fun _ => True) (.slice (some ⟨g, 0, none⟩) l.length c) cur) ∧ Aside0 (Below w0.heap.size w0 wr))
    case atStart => exact ⟨k0, k0 + 1, l, rfl, by go_num, by omega, by omega, LS, ⟨Kd.R_below HO.out hb⟩, ⟨below_step HB.out hb⟩⟩
    case round =>
      clear LS HO HB hb hix
      obtain ⟨i, j, cur, rfl, rfl, hjn, hgg, HL, HO, HB⟩ := hrel
      by_cases hlt : j < l.length
      · have hltz := eq_true (show (j : Int) < (l.length : Int) by omega)
        have h0z := eq_true (show 0 ≤ (j : Int) by omega)
        have hiz := eq_true (show (i : Int) < (l.length : Int) by have := HL.out.lt; omega)
        have h0i := eq_true (show 0 ≤ (i : Int) by omega)
        have d1 : decide ((j : Int) < (l.length : Int)) = true := decide_eq_true (by omega)
        have hlen := HL.out.len
        obtain ⟨ad, e, hx0, hx1, hx2⟩ := at_T52 (Kd.R_reads' HO.out).2.2 (j : Int) (by omega) (by omega)
        cases e
        rw [Int.toNat_natCast] at hx0 hx1 hx2
        simp only [add_plain] at hx0 hx1 hx2
        have hy : rd_T52 cur (j : Int) = l.getD j z52 := HL.out.at hlt
        rw [hy] at hx0 hx1 hx2
        have hskip := fun hq => HL.out.skip hlt hq
        have hkeep := fun hq => HL.out.keep hlt hq
        have hij := HL.out.lt
        clear hy HL
        generalize l.getD j z52 = y at hx0 hx1 hx2 hskip hkeep
        have hcall := fun W => impl_colouredRuns.pred W y
        have HS := Aside0.mk hskip
        have HKp := Aside0.mk hkeep
        clear hskip hkeep
        cases hq : bareB y with
        | true =>
          rw [hq] at hcall
          have Q := Aside0.mk hq
          clear hq
          go_wp2_with (go_at_fn 76; refine (hcall _).mono ?_; rintro e w' ⟨rfl, hb⟩)
          go_roundg (l.length - (j + 1))
          case measure => omega
          case rel => exact ⟨i, j + 1, cur, rfl, by go_num, by omega, Nat.le_refl _, ⟨HS.out Q.out⟩, ⟨Kd.R_below HO.out (below_step (by repeat (first | exact Below.refl _ _ | apply below_alloc)) hb)⟩, ⟨below_step (by repeat (first | exact HB.out | apply below_alloc)) hb⟩⟩
        | false =>
          rw [hq] at hcall
          have Q := Aside0.mk hq
          clear hq
          go_wp2_with (first | (go_at_fn 76; refine (hcall _).mono ?_; rintro e w' ⟨rfl, hb⟩; obtain ⟨hq0, hq1, hq2⟩ := box3 hb; have HR2 := Aside0.mk (Kd.R_below HO.out (below_step (below_alloc (Below.refl _ _) _) hb)); have HB2 := Aside0.mk (below_step (below_alloc HB.out _) hb); have hg' := GB.out) | ((with_reducible refine gate_ (.store 52 (.tmp 33) (.tmp 32)) rfl ?_); go_loud (obtain ⟨c0, hc0, hcM, hcc, hcf⟩ := Kd.R_elem HR2.out z52 (i : Int) (by omega) (by omega); refine Kd.R_store k52 (w0 := w0) w0.heap.size rfl rfl 52 (.tmp 33) (.tmp 32) rfl 52 (i : Int) 0 cur y _ [.int .i64 y.f0, .int .i64 y.f1, .string y.f2] c0 (fun _ => True) (fun _ => False) rfl (by rw [Int.toNat_natCast]; rfl) rfl rfl (by kernel_rfl) (by simp [Value.oneCell']) HR2.out (by omega) (by omega) hc0 hcc (Nat.le_refl 3) (by rw [store_all [.int .i64 y.f0, .int .i64 y.f1, .string y.f2] c0 (hc0.trans rfl)]; exact k52_mkM _ _ _ y) (fun _ hk => hk.elim) HB2.out ?_; intro w2 hR2 hB2 hG2; have HR3 := Aside0.mk hR2; have HB3 := Aside0.mk hB2; clear hR2 hB2 hG2)))
          go_roundg (l.length - (j + 1))
          case measure => omega
          case rel => exact ⟨i + 1, j + 1, cur.set i y, by go_num, by go_num, by omega, Nat.le_refl _, ⟨HKp.out Q.out⟩, HR3, HB3⟩
      · have d1 : decide ((j : Int) < (l.length : Int)) = false := decide_eq_false (by omega)
        have hjl : j = l.length := by omega
        have hij := HL.out.lt
        have hiz := eq_true (show (i : Int) ≤ (l.length : Int) by omega)
        have h0i := eq_true (show 0 ≤ (i : Int) by omega)
        obtain ⟨cells, hh, hnc, hsz, hbg⟩ := R_cells HO.out
        have hnl : cur.length = l.length := HL.out.len
        have hfl := HL.out.low
        rw [hjl, List.take_length] at hfl
        have hz := size_zeroCells (Value.agg #[.int .i64 0, .int .i64 0, .string (⟨#[]⟩ : ByteArray)]).cells (l.length - i)
        have hsz3 : (Value.agg #[.int .i64 0, .int .i64 0, .string (⟨#[]⟩ : ByteArray)]).cells.size = 3 := rfl
        have hfit2 : i * 3 + (Builtin.zeroCells (Value.agg #[.int .i64 0, .int .i64 0, .string (⟨#[]⟩ : ByteArray)]).cells (l.length - i)).toList.length ≤ c * 3 := by
          rw [Array.length_toList, hz, hsz3]
          omega
        have hfit : i * 3 + (Builtin.zeroCells (Value.agg #[.int .i64 0, .int .i64 0, .string (⟨#[]⟩ : ByteArray)]).cells (l.length - i)).toList.length ≤ cells.size := by
          rw [hsz]
          exact hfit2
        have h1c : ∀ q ∈ (Builtin.zeroCells (Value.agg #[.int .i64 0, .int .i64 0, .string (⟨#[]⟩ : ByteArray)]).cells (l.length - i)).toList, q.oneCell' = true := zeroCells_one (by simp [Value.cells, Value.oneCell']) _
        have hcl := clear_run (P := Try.prog) (w := wr) (g := g) (e := 52) (t := 33) (o := i * 3) (n := l.length - i) (c := c - i) (cur := cells) (zc := .agg #[.int .i64 0, .int .i64 0, .string (⟨#[]⟩ : ByteArray)]) Try.underlying33 (fun w => by kernel_rfl) (by simp [Value.cells, Value.oneCell']) hh (by omega) hfit h1c 0
        have HC := Aside0.mk (R_clear (m := i) HO.out (by omega) hfit2)
        rw [hfl] at HC
        have HW := Aside0.mk (clear_below (o := i * 3) (seg := (Builtin.zeroCells (Value.agg #[.int .i64 0, .int .i64 0, .string (⟨#[]⟩ : ByteArray)]).cells (l.length - i)).toList) HB.out hbg)
        generalize hX : wr.setCells g (i * 3) (Builtin.zeroCells (Value.agg #[.int .i64 0, .int .i64 0, .string (⟨#[]⟩ : ByteArray)]).cells (l.length - i)).toList = X at hcl HW
        clear hz hsz3 hfit hfit2 h1c hh hsz hfl HL
        have HX := Aside0.mk hX
        clear hX
        go_wp2
        go_ret
        refine ⟨_, rfl, ?_, HW.out⟩
        rw [← HX.out]
        exact HC.out
set_option maxRecDepth 100000 in
set_option maxHeartbeats 4000000 in
theorem impl_colouredRuns.calls (k : Nat) (a0 : ByteArray) (r : List S52) (w : World) (h : impl_colouredRuns.f k a0 = some r) :
    Calls Try.prog 53 #[.string a0] w fun e w' => ∃ v0_ : Value, e = .returned v0_ ∧ Kd.R k52 52 w' w.heap.size (fun _ => True) v0_ r ∧ Below w.heap.size w w' := by
  unfold impl_colouredRuns.f at h
  obtain ⟨l, hl, H⟩ := Option.bind_eq_some_iff.mp h
  obtain rfl : (l.filter fun s => !bareB s) = r := by simpa using H
  have hcall := impl_runsOf.calls k a0 l w hl
  have hdel := fun w1 u hB hR => impl_colouredRuns.del w w1 u l hB hR
  clear h hl H
  have hmf : ∀ (fn : Fn) (first cap : Array Value) (w : World), (Instr.makeFunc fn first cap).run Try.prog w = .ok (.func fn first cap) w := fun _ _ _ _ => rfl
  have H := Aside0.mk hcall
  go_enter Try.func53, Try.ntmps53
  go_wp2_with (first | (go_at_call 52; refine hcall.mono ?_; rintro e w1 ⟨u, rfl, hR, hb⟩) | (go_at_call 75; refine (hdel _ _ (by assumption) (by assumption)).mono ?_; rintro e w2 ⟨u2, rfl, hR2, hb2⟩))
  go_ret
  exact ⟨_, rfl, hR2, hb2⟩

end Go.Proofs.Ytoiondajpccobaa.P
