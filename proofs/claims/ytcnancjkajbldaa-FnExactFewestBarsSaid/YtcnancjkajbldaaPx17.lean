-- Printed by wip/pp.py of this claim's session (the kit's print over functions that are given by hand). Not trusted: Lean checks it.
import Derived.Test.YtcnancjkajbldaaPx0
import Derived.Test.YtcnancjkajbldaaPx1
import Derived.Test.YtcnancjkajbldaaPx3
import Derived.Test.YtcnancjkajbldaaPx16
namespace Go.Proofs.Ytcnancjkajbldaa.P
open Go.RowKit Go.Proofs.YtcnancjkajbldaaW.PrintWords Go.Proofs.YtcnancjkajbldaaW.PrintLast Go.Proofs.YtcnancjkajbldaaW.PrintMore
attribute [local go_sem] max2_int min2_int max_two min_two max_three min_three max_four min_four   -- for this text's walks alone
set_option linter.unusedVariables false
set_option linter.unusedSimpArgs false

/-! ### spec_BestOrder: function 23 (given) -/
abbrev BSt := List Int × Int
def boOwn (rs s : List Int) : List Int := s.map fun x => rd rs x
def boIn (rs s : List Int) : Bool := s.all fun x => decide (0 ≤ x ∧ x < (rs.length : Int))
def bLoop {α : Type} (g : Nat → α → Option α) : Nat → Nat → α → Option α
  | 0, _, st => some st
  | m + 1, i, st => (g i st).bind (bLoop g m (i + 1))
theorem boOwn_take (rs s : List Int) (i : Nat) (h : i < s.length) : boOwn rs (s.take i) ++ [rd rs s[i]] = boOwn rs (s.take (i + 1)) := by
  unfold boOwn
  rw [List.take_succ_eq_append_getElem h, List.map_append]
  rfl
theorem boIn_get (rs s : List Int) (h : boIn rs s = true) (i : Nat) (hi : i < s.length) : 0 ≤ s[i] ∧ s[i] < (rs.length : Int) := by
  unfold boIn at h
  rw [List.all_eq_true] at h
  exact of_decide_eq_true (h _ (List.getElem_mem hi))
/-- The two variables that the order's best is kept in. -/
def BS (g k : Nat) : Prop := k = g ∨ k = g + 1
structure BInv (w0 w : World) (g : Nat) (st : BSt) (v : Value) : Prop where
  below : Below w0.heap.size w0 w
  size : g + 2 ≤ w.heap.size
  lo : w0.heap.size ≤ g
  h7 : w.heap[g]? = some (.cells #[v] 22 (0, 0))
  h8 : w.heap[g + 1]? = some (.cells #[.int .i64 st.2] 3 (0, 0))
  row : (Kd.int .i64).R 3 w w0.heap.size (fun k => ¬ BS g k) v st.1
theorem BInv.step {w0 w w1 : World} {g : Nat} {st : BSt} {v : Value} (h : BInv w0 w g st v) (hb : Below w.heap.size w w1) : BInv w0 w1 g st v := by
  have hs := hb.size
  have h6 := h.size
  exact ⟨below_step h.below hb, by omega, h.lo, blk_below h.h7 hb, blk_below h.h8 hb, Kd.R_below h.row hb⟩
theorem BInv.put {w0 w : World} {g : Nat} {st : BSt} {v : Value} (h : BInv w0 w g st v) (n : Int) (u : Value) (s : List Int) (hu : (Kd.int .i64).R 3 w w0.heap.size (fun k => ¬ BS g k) u s) :
    BInv w0 ((w.setCell ⟨g, 0, none⟩ u).setCell ⟨g + 1, 0, none⟩ (.int .i64 n)) g (s, n) u := by
  have hlo := h.lo
  have far : ∀ k, ¬ BS g k → ((w.setCell ⟨g, 0, none⟩ u).setCell ⟨g + 1, 0, none⟩ (.int .i64 n)).heap[k]? = w.heap[k]? := fun k hk => by
    unfold BS at hk
    rw [Below.heap_setCell _ _ _ k (by show k ≠ g + 1; omega), Below.heap_setCell _ _ _ k (by show k ≠ g; omega)]
  refine ⟨(h.below.setCell hlo _).setCell (by show w0.heap.size ≤ g + 1; omega) _, by simpa [World.setCell] using h.size, hlo, ?_, ?_, Kd.R_step hu (fun k hk _ => far k hk)⟩
  · rw [Below.heap_setCell _ _ _ _ (by show g ≠ g + 1; omega)]
    exact one_setCell h.h7
  · refine one_setCell ((Below.heap_setCell _ _ _ _ ?_).trans h.h8)
    show g + 1 ≠ g
    omega
theorem BInv.kept {w w1 : World} {g : Nat} (h : Below w.heap.size w w1) (n : Int) (u : Value) : Kept w ((w1.setCell ⟨g, 0, none⟩ u).setCell ⟨g + 1, 0, none⟩ (.int .i64 n)) (BS g) :=
  ((Kept.of_below h _).setCell (p := ⟨g, 0, none⟩) (.inl (.inl rfl)) _).setCell (p := ⟨g + 1, 0, none⟩) (.inl (.inr rfl)) _
theorem bo_lower {w0 w w1 : World} {g : Nat} {v : Value} {l : List Int} (h : (Kd.int .i64).R 3 w1 w.heap.size (fun _ => True) v l) (hlo : w0.heap.size ≤ g) (hs : g + 2 ≤ w.heap.size) : (Kd.int .i64).R 3 w1 w0.heap.size (fun k => ¬ BS g k) v l :=
  Kd.R_lower (Kd.R_mono (Kd.R_bound h) (fun k hk => by unfold BS; have := hk.2.1; omega)) (by omega)
theorem bo_empty {W : World} {g base : Nat} {ok : Nat → Prop} (hh : W.heap[g]? = some (.cells #[] 3 (0, 0))) (hb : base ≤ g) (hok : ok g) : (Kd.int .i64).R 3 W base ok (.slice (some ⟨g, 0, none⟩) 0 0) [] := by
  refine Kd.R_of_own (xs := ([] : List Int)) ⟨rfl, .inr ⟨g, 0, #[], rfl, hb, hh, Nat.le_refl _, Nat.zero_le _, rfl, rfl⟩⟩ (fun k hk => ?_)
  have : g = k := by simpa [Value.ownBlock] using hk
  subst this
  exact hok
def spec_BestOrder.step (k : Nat) (ws rs : List Int) (st : BSt) (s : List Int) : Option BSt :=
  if boIn rs s = true then (spec_shLeast.f k ws (boOwn rs s) 0 0).bind fun t => some (if st.1.length = 0 then (s, t) else if t < st.2 then (s, t) else st) else none
def spec_BestOrder.ord (k : Nat) (ws rs : List Int) : Nat → List Int → BSt → Option BSt
  | 0, bg, st => spec_BestOrder.step k ws rs st bg
  | d + 1, bg, st => bLoop (fun i st => (spec_l1Has.f k bg (i : Int)).bind fun c => if c = true then some st else spec_BestOrder.ord k ws rs d (bg ++ [(i : Int)]) st) rs.length 0 st
set_option maxRecDepth 100000 in
set_option maxHeartbeats 8000000 in
theorem spec_BestOrder.sho (k : Nat) {w0 : World} {g : Nat} {Aw : Option Addr} {cw : Nat} {Ar : Option Addr} {cr : Nat} (ws rs : List Int) (hrw : Kd.C (Kd.int .i64) w0 Aw ws.length ws) (hcw : ws.length ≤ cw) (hrr : Kd.C (Kd.int .i64) w0 Ar rs.length rs) (hcr : rs.length ≤ cr) (hr100 : rs.length ≤ 100) :
    ∀ (d : Nat) (bg : List Int) (u v : Value) (w : World) (st st' : BSt), BInv w0 w g st v → (Kd.int .i64).R 3 w w0.heap.size (fun k => ¬ BS g k) u bg → bg.length + d = rs.length → spec_BestOrder.ord k ws rs d bg st = some st' →
    Calls Try.prog 41 #[.slice Aw ws.length cw, .slice Ar rs.length cr, u, .pointer (some ⟨g, 0, none⟩), .pointer (some ⟨g + 1, 0, none⟩)] w fun e w' => e = .returned (.tuple #[]) ∧ (∃ v', BInv w0 w' g st' v') ∧ Kept w w' (BS g) := by
  intro d
  induction d with
  | zero =>
    intro bg u v w st st' hI hu hl hst
    obtain ⟨Au, cu, rfl⟩ := Kd.R_slice hu
    unfold spec_BestOrder.ord spec_BestOrder.step at hst
    have hin : boIn rs bg = true := by
      rcases hq : boIn rs bg with _ | _
      · rw [hq] at hst; simp at hst
      · rfl
    rw [if_pos hin] at hst
    obtain ⟨t, ht, hst⟩ := Option.bind_eq_some_iff.mp hst
    have hst2 := Option.some.inj hst
    have hbl : bg.length = rs.length := by omega
    have hru := Kd.R_reads' hu
    have hHU := Aside0.mk hu
    have HI := Aside0.mk hI
    have HIn := Aside0.mk (boIn_get rs bg hin)
    have HT := Aside0.mk ht
    have HW := Aside0.mk hrw
    have HRr := Aside0.mk hrr
    have HC := Aside0.mk hru.2.2
    have HS := Aside0.mk hst2
    have dl : ((bg.length : Int) == (rs.length : Int)) = true := beq_iff_eq.mpr (by omega)
    have HHc := Aside0.mk hcw
    have HBL := Aside0.mk hbl
    have hb100 : bg.length ≤ 100 := by omega
    clear hu hI hst hst2 hin ht hrw hrr hru hcw hbl hl
    go_enter Try.func41, Try.ntmps41
    go_wp2
    go_loopg [10, 12, 22] bg.length (fun gg v10 _ s22 wr => ∃ (i : Nat) (L : List Int), s22 = .int .i64 (i : Int) ∧ i ≤ bg.length ∧ bg.length - i ≤ gg ∧ Aside0 (L = boOwn rs (bg.take i)) ∧ L.length ≤ i ∧ Aside0 ((Kd.int .i64).R 3 wr w.heap.size (fun _ => True) v10 L) ∧ Aside0 (Below w.heap.size w wr))
    case atStart => exact ⟨0, [], by go_num, Nat.zero_le _, by omega, ⟨by simp [boOwn]⟩, Nat.le_refl _, ⟨Kd.R_nil _ _ _ _ _⟩, ⟨Below.refl _ _⟩⟩
    case round =>
      obtain ⟨i, L, rfl, hin, hgg, HL, hLl, HO, HB⟩ := hrel
      by_cases hlt : i < bg.length
      · have d2 : decide ((i : Int) < (bg.length : Int)) = true := decide_eq_true (by omega)
        have p0 := eq_true (show 0 ≤ (i : Int) by omega)
        have p1 := eq_true (show (i : Int) < (bg.length : Int) by omega)
        obtain ⟨ad, e, hx0⟩ := Kd.at_int (Kd.C_below HC.out HB.out) (i : Int) (by omega) (by omega)
        cases e
        rw [Int.toNat_natCast] at hx0
        have hib : i < bg.length := hlt
        have hrd : rd bg (i : Int) = bg[i] := by simp [rd, List.getElem?_eq_getElem hib, List.getD_eq_getElem?_getD]
        have hbd := HIn.out i hib
        have hnext := boOwn_take rs bg i hib
        rw [hrd] at hx0
        clear hrd
        generalize bg[i] = x at hx0 hbd hnext
        obtain ⟨ad2, e2, hx1⟩ := Kd.at_int (Kd.C_below (Kd.C_below HRr.out HI.out.below) HB.out) x hbd.1 hbd.2
        cases e2
        have q0 := eq_true hbd.1
        have q1 := eq_true hbd.2
        have HN := Aside0.mk hnext
        clear hnext hbd
        generalize rd rs x = y at hx1 HN
        go_wp2_with (first | ((with_reducible refine gate_builtin (b := .append) (xs := #[.tmp 26, .tmp 31]) rfl ?_); go_loud (at_builtin; refine Kd.R_append (Kd.int .i64) (w0 := w) w.heap.size rfl (.tmp 26) (.tmp 31) 22 3 (.int .i64 0) 8 rfl Try.underlying22 info3 rfl (by decide) (by omega) u10 L y [.int .i64 y] (fun _ => True) (fun _ => False) rfl (by first | rfl | (go_simp; done) | (go_simp; rfl)) ?aP (fun _ hk => hk.elim) ?aF ?aO ?aB ?aS ?aL ?_; (case aP => exact rfl); (case aF => exact fun _ _ => trivial); (case aO => exact HO.out); (case aB => exact HB.out); (case aS => exact below_size HB.out); (case aL => omega); intro v1b w1b ho hb hg hat; have HO2 := Aside0.mk ho; have HB2 := Aside0.mk hb; clear ho hb hg hat)))
        go_roundg (bg.length - (i + 1))
        case measure => omega
        case rel => exact ⟨i + 1, L ++ [y], by go_num, by omega, Nat.le_refl _, ⟨by rw [HL.out]; exact HN.out⟩, by rw [List.length_append, List.length_singleton]; omega, HO2, HB2⟩
      · have d2 : decide ((i : Int) < (bg.length : Int)) = false := decide_eq_false (by omega)
        have hL : L = boOwn rs bg := by rw [HL.out, List.take_of_length_le (by omega)]
        subst hL
        obtain ⟨A1, c1, e1⟩ := Kd.R_slice HO.out
        subst e1
        have hLe := fun W hr1 hr2 => spec_shLeast.calls k Aw cw ws A1 c1 (boOwn rs bg) 0 0 t W hr1 HHc.out hr2 (Kd.R_reads' HO.out).2.1 HT.out
        have hbl2 : (boOwn rs bg).length = bg.length := by simp [boOwn]
        obtain ⟨best, least⟩ := st
        obtain ⟨A2, c2, e2⟩ := Kd.R_slice HI.out.row
        subst e2
        have hI2 := HI.out.step HB.out
        have f7 := cell_of_one hI2.h7
        have f8 := cell_of_one hI2.h8
        have g7 := free_of_one hI2.h7
        have g8 := free_of_one hI2.h8
        have hs2 := HS.out
        simp only at hs2 f7 f8
        clear hbl2
        by_cases c1 : best.length = 0
        · rw [if_pos c1] at hs2
          subst hs2
          have e0 : ((best.length : Int) == 0) = true := beq_iff_eq.mpr (by omega)
          clear c1
          go_wp2_with (first | (go_at_call 32; go_loud (refine (hLe _ (Kd.C_below HW.out hI2.below) (Kd.R_reads' HO.out).2.2).mono ?_; rintro e w5 ⟨rfl, ⟨q, rfl⟩⟩)))
          (try simp only [Exit.inBlock, Exit.then])
          refine bodyPost_ret (results_none rfl _ _ _) rfl ?_
          have hq := pw_below_drewN (Below.refl wr.heap.size wr) q
          have hqw := below_step HB.out hq
          exact ⟨rfl, ⟨_, (hI2.step hq).put t _ bg (Kd.R_below hHU.out hqw)⟩, BInv.kept hqw t _⟩
        · rw [if_neg c1] at hs2
          have e0 : ((best.length : Int) == 0) = false := beq_eq_false_iff_ne.mpr (by omega)
          clear c1
          by_cases c2 : t < least
          · rw [if_pos c2] at hs2
            subst hs2
            have e1 : decide (t < least) = true := decide_eq_true c2
            clear c2
            go_wp2_with (first | (go_at_call 32; go_loud (refine (hLe _ (Kd.C_below HW.out hI2.below) (Kd.R_reads' HO.out).2.2).mono ?_; rintro e w5 ⟨rfl, ⟨q, rfl⟩⟩)))
            (try simp only [Exit.inBlock, Exit.then])
            refine bodyPost_ret (results_none rfl _ _ _) rfl ?_
            have hq := pw_below_drewN (Below.refl wr.heap.size wr) q
            have hqw := below_step HB.out hq
            exact ⟨rfl, ⟨_, (hI2.step hq).put t _ bg (Kd.R_below hHU.out hqw)⟩, BInv.kept hqw t _⟩
          · rw [if_neg c2] at hs2
            subst hs2
            have e1 : decide (t < least) = false := decide_eq_false c2
            clear c2
            go_wp2_with (first | (go_at_call 32; go_loud (refine (hLe _ (Kd.C_below HW.out hI2.below) (Kd.R_reads' HO.out).2.2).mono ?_; rintro e w5 ⟨rfl, ⟨q, rfl⟩⟩)))
            (try simp only [Exit.inBlock, Exit.then])
            refine bodyPost_ret (results_none rfl _ _ _) rfl ?_
            have hq := pw_below_drewN (Below.refl wr.heap.size wr) q
            have hqw := below_step HB.out hq
            exact ⟨rfl, ⟨_, hI2.step hq⟩, Kept.of_below hqw _⟩
  | succ d ih =>
    intro bg u v w st st' hI hu hl hst
    obtain ⟨Au, cu, rfl⟩ := Kd.R_slice hu
    have hru := Kd.R_reads' hu
    have hOwn : spec_l1Own.f bg = some bg := by
      unfold spec_l1Own.f
      rw [Option.bind_some, List.nil_append, if_pos (by rw [List.length_nil]; omega)]
    have hOwnC := fun W hr => spec_l1Own.calls Au cu bg bg W hr hru.2.1 hOwn
    have hHasC := fun (x : Int) (c : Bool) W hr h => spec_l1Has.calls k Au cu bg x c W hr hru.2.1 h
    have dl : ((bg.length : Int) == (rs.length : Int)) = false := beq_eq_false_iff_ne.mpr (by omega)
    unfold spec_BestOrder.ord at hst
    have HU := Aside0.mk hu
    have HI := Aside0.mk hI
    have HS := Aside0.mk hst
    have HIH := Aside0.mk ih
    have HL := Aside0.mk hl
    have hb100 : bg.length ≤ 100 := by omega
    clear hu hI hst ih hl hrw hrr hcw hcr hru hOwn
    go_enter Try.func41, Try.ntmps41
    go_wp2
    go_loopg [14, 57] rs.length (fun gg _ s57 wr => ∃ (i : Nat) (sti : BSt) (vi : Value), s57 = .int .i64 (i : Int) ∧ i ≤ rs.length ∧ rs.length - i ≤ gg ∧ Aside0 (bLoop (fun i st => (spec_l1Has.f k bg (i : Int)).bind fun c => if c = true then some st else spec_BestOrder.ord k ws rs d (bg ++ [(i : Int)]) st) (rs.length - i) i sti = some st') ∧ Aside0 (BInv w0 wr g sti vi) ∧ Aside0 (Kept w wr (BS g)))
    case atStart => exact ⟨0, st, v, by go_num, Nat.zero_le _, by omega, HS, HI, ⟨Kept.refl _ _⟩⟩
    case round =>
      clear HS
      obtain ⟨i, sti, vi, rfl, hib, hgg, HVi, HIi, HK⟩ := hrel
      by_cases hlt : i < rs.length
      · have d1 : decide ((i : Int) < (rs.length : Int)) = true := decide_eq_true (by omega)
        have hi1 : rs.length - i = (rs.length - (i + 1)) + 1 := by omega
        have hvi := HVi.out
        rw [hi1, bLoop] at hvi
        obtain ⟨st1, hv1, hv2⟩ := Option.bind_eq_some_iff.mp hvi
        obtain ⟨c, hc, hv1⟩ := Option.bind_eq_some_iff.mp hv1
        have hub := Kd.R_step (w1 := wr) HU.out (fun k hk hlt => HK.out.2 k hlt hk)
        have hhas := fun W hr => hHasC (i : Int) c W hr hc
        have HUi := Aside0.mk hub
        have HV2 := Aside0.mk hv2
        have HV1 := Aside0.mk hv1
        clear hub hv2 hvi HVi hi1 hc hHasC hv1
        cases c with
        | true =>
          have hv1 := HV1.out
          rw [if_pos rfl] at hv1
          obtain rfl := Option.some.inj hv1
          clear HV1 hv1
          go_wp2_with (first | (go_at_call 63; go_loud (refine (hhas _ (Kd.R_reads' HUi.out).2.2).mono ?_; rintro e w' ⟨rfl, ⟨q, rfl⟩⟩)))
          have hq := pw_below_drewN (Below.refl wr.heap.size wr) q
          go_roundg (rs.length - (i + 1))
          case measure => omega
          case rel => exact ⟨i + 1, sti, vi, by go_num, by omega, Nat.le_refl _, HV2, ⟨HIi.out.step hq⟩, ⟨HK.out.then_ (Kept.of_below hq (BS g)) (fun _ h => .inl h)⟩⟩
        | false =>
          have hv1 := HV1.out
          rw [if_neg (by simp)] at hv1
          have HV3 := Aside0.mk hv1
          clear HV1 hv1
          go_wp2_with (first | (go_at_call 63; go_loud (refine (hhas _ (Kd.R_reads' HUi.out).2.2).mono ?_; rintro e w' ⟨rfl, ⟨q, rfl⟩⟩)) | (go_at_call 64; go_loud (refine (hOwnC _ (Kd.C_drewN (Kd.R_reads' HUi.out).2.2 q)).mono ?_; rintro e w5 ⟨v5, rfl, hR5, hb5⟩; have HR5 := Aside0.mk (show (Kd.int .i64).R 3 w5 wr.heap.size (fun _ => True) v5 bg from hR5); have HB5 := Aside0.mk (show Below wr.heap.size wr w5 from below_step (pw_below_drewN (Below.refl wr.heap.size wr) q) hb5); clear hR5 hb5)) | ((with_reducible refine gate_builtin (b := .append) (xs := #[.tmp 67, .tmp 69]) rfl ?_); go_loud (at_builtin; refine Kd.R_append (Kd.int .i64) (w0 := wr) wr.heap.size rfl (.tmp 67) (.tmp 69) 22 3 (.int .i64 0) 8 rfl Try.underlying22 info3 rfl (by decide) (by omega) v5 bg (i : Int) [.int .i64 (i : Int)] (fun _ => True) (fun _ => False) rfl (by first | rfl | (go_simp; done) | (go_simp; rfl)) ?aP (fun _ hk => hk.elim) ?aF ?aO ?aB ?aS ?aL ?_; (case aP => exact rfl); (case aF => exact fun _ _ => trivial); (case aO => exact HR5.out); (case aB => exact HB5.out); (case aS => exact below_size HB5.out); (case aL => omega); intro v1b w1b ho hb hg hat; have HO2 := Aside0.mk ho; have HB2 := Aside0.mk hb; clear ho hb hg hat)) | (go_at_call 41; go_loud (refine (HIH.out (bg ++ [(i : Int)]) v1b vi w1b sti st1 (HIi.out.step HB2.out) (bo_lower HO2.out HIi.out.lo HIi.out.size) (by have := HL.out; rw [List.length_append, List.length_singleton]; omega) HV3.out).mono ?_; rintro e w' ⟨rfl, ⟨v2, hI2⟩, hk⟩)))
          go_roundg (rs.length - (i + 1))
          case measure => omega
          case rel => exact ⟨i + 1, st1, v2, by go_num, by omega, Nat.le_refl _, HV2, ⟨hI2⟩, ⟨HK.out.then_ ((Kept.of_below HB2.out (BS g)).then_ hk (fun _ h => .inl h)) (fun _ h => .inl h)⟩⟩
      · have d1 : decide ((i : Int) < (rs.length : Int)) = false := decide_eq_false (by omega)
        have e0 : rs.length - i = 0 := by omega
        have hvi := HVi.out
        rw [e0] at hvi
        have hvi2 : some sti = some st' := hvi
        obtain rfl := Option.some.inj hvi2
        have HE := Aside0.mk HIi.out
        clear hvi hvi2 HVi e0
        go_wp2
        go_end0
        exact ⟨rfl, ⟨_, HE.out⟩, HK.out⟩
theorem bLoop_mono {α : Type} {g g' : Nat → α → Option α} (h : ∀ i st, LeO (g i st) (g' i st)) : ∀ (m i : Nat) (st : α), LeO (bLoop g m i st) (bLoop g' m i st)
  | 0, _, _ => LeO.refl _
  | m + 1, i, st => LeO.bind (h i st) (fun _ => bLoop_mono h m (i + 1) _)
theorem spec_BestOrder.mono_ord (k : Nat) (ws rs : List Int) : ∀ (d : Nat) (bg : List Int) (st : BSt), LeO (spec_BestOrder.ord k ws rs d bg st) (spec_BestOrder.ord (k + 1) ws rs d bg st)
  | 0, bg, st => LeO.ite (LeO.bind (spec_shLeast.mono _ _ _ _ k) (fun _ => LeO.refl _)) (LeO.refl _)
  | d + 1, bg, st => bLoop_mono (fun i st => LeO.bind (spec_l1Has.mono _ _ k) (fun _ => LeO.ite (LeO.refl _) (spec_BestOrder.mono_ord k ws rs d _ _))) _ _ _
def spec_BestOrder.f (k : Nat) (ws rs : List Int) : Option (List Int × Int × Bool) :=
  (spec_shRated.f k ws rs).bind fun b => if b = true then (if rs.length ≤ 100 then (spec_BestOrder.ord k ws rs rs.length [] ([], 0)).bind fun st => some (st.1, st.2, true) else none) else some ([], 0, false)
theorem spec_BestOrder.mono : ∀ a0 a1 k, LeO (spec_BestOrder.f k a0 a1) (spec_BestOrder.f (k + 1) a0 a1) := by
  intro a0 a1 k
  unfold spec_BestOrder.f
  exact LeO.bind (spec_shRated.mono _ _ k) (fun _ => LeO.ite (LeO.ite (LeO.bind (spec_BestOrder.mono_ord k a0 a1 _ _ _) (fun _ => LeO.refl _)) (LeO.refl _)) (LeO.refl _))
theorem bo_start (w w1 : World) (hb : Below w.heap.size w w1) (v : Value) (n : Int) (hr : ∀ W : World, Below w1.heap.size w1 W → (Kd.int .i64).R 3 W w.heap.size (fun k => ¬ BS w1.heap.size k) v []) :
    BInv w ((w1.alloc (.cells #[v] 22)).alloc (.cells #[.int .i64 n] 3)) w1.heap.size ([], n) v := by
  have s1 : (w1.alloc (.cells #[v] 22)).heap.size = w1.heap.size + 1 := by simp
  have s2 : ((w1.alloc (.cells #[v] 22)).alloc (.cells #[.int .i64 n] 3)).heap.size = w1.heap.size + 2 := by simp
  have b2 := blk_new (w1.alloc (.cells #[v] 22)) (.cells #[.int .i64 n] 3 (0, 0))
  rw [s1] at b2
  exact ⟨below_alloc (below_alloc hb _) _, by rw [s2]; exact Nat.le_refl _, hb.size, blk_alloc (blk_new w1 (.cells #[v] 22 (0, 0))) _, b2, hr _ (below_alloc (below_alloc (Below.refl _ _) _) _)⟩
set_option maxRecDepth 100000 in
set_option maxHeartbeats 8000000 in
theorem spec_BestOrder.calls (k : Nat) (A0 : Option Addr) (c0 : Nat) (l0 : List Int) (A1 : Option Addr) (c1 : Nat) (l1 : List Int) (r1 : List Int) (r2 : Int) (r3 : Bool) (w : World) (hr0 : Kd.C (Kd.int .i64) w A0 l0.length l0) (hc0 : l0.length ≤ c0) (hr1 : Kd.C (Kd.int .i64) w A1 l1.length l1) (hc1 : l1.length ≤ c1) (h : spec_BestOrder.f k l0 l1 = some (r1, r2, r3)) :
    Calls Try.prog 23 #[.slice A0 l0.length c0, .slice A1 l1.length c1] w fun e w' => ∃ v0_ : Value, e = .returned (.tuple #[v0_, .int .i64 r2, .bool r3]) ∧ Kd.R (Kd.int .i64) 3 w' w.heap.size (fun _ => True) v0_ r1 ∧ Below w.heap.size w w' := by
  unfold spec_BestOrder.f at h
  obtain ⟨b, hb, h⟩ := Option.bind_eq_some_iff.mp h
  have hrated := spec_shRated.calls k A0 c0 l0 A1 c1 l1 b w hr0 hc0 hr1 hc1 hb
  clear hb
  cases b with
  | false =>
    simp only [Bool.false_eq_true, if_false] at h
    obtain ⟨rfl, rfl, rfl⟩ : [] = r1 ∧ 0 = r2 ∧ false = r3 := by simpa using h
    clear h hr0 hr1
    go_enter Try.func23, Try.ntmps23
    go_wp2_with (go_at_call 31; refine hrated.mono ?_; rintro e w1 ⟨rfl, ⟨q, rfl⟩⟩)
    go_ret3
    exact ⟨_, rfl, Kd.R_nil _ _ _ _ _, pw_below_drewN (Below.refl _ _) q⟩
  | true =>
    simp only [if_true] at h
    by_cases hlen : l1.length ≤ 100
    · rw [if_pos hlen] at h
      obtain ⟨st, ho, h⟩ := Option.bind_eq_some_iff.mp h
      obtain ⟨best, least⟩ := st
      obtain ⟨rfl, rfl, rfl⟩ : best = r1 ∧ least = r2 ∧ true = r3 := by simpa using h
      have hsh := fun q u v w1 hI hu => spec_BestOrder.sho k (w0 := w) (g := (w.drewN q).heap.size) (Aw := A0) (cw := c0) (Ar := A1) (cr := c1) l0 l1 hr0 hc0 hr1 hc1 hlen l1.length [] u v w1 ([], 0) (best, least) hI hu (by simp) ho
      clear h ho hr0 hr1
      go_enter Try.func23, Try.ntmps23
      go_wp2_with (first | (go_at_call 31; refine hrated.mono ?_; rintro e w1 ⟨rfl, ⟨q, rfl⟩⟩) | (go_at_call 41; go_loud (refine (hsh q _ _ _ (bo_start w (w.drewN q) (pw_below_drewN (Below.refl _ _) q) (.slice none 0 0) 0 (fun W _ => Kd.R_nil _ _ _ _ _)) (Kd.R_nil _ _ _ _ _)).mono ?_; rintro e w' ⟨rfl, ⟨v2, hI2⟩, hk⟩; have f7 : w'.cell? ⟨w.heap.size, 0, none⟩ = some v2 := cell_of_one hI2.h7; have f8 : w'.cell? ⟨w.heap.size + 1, 0, none⟩ = some (.int .i64 least) := cell_of_one hI2.h8)))
      repeat (go_quiet (fail); try go_wp2)
      go_ret3
      exact ⟨_, rfl, Kd.R_drewN (Kd.R_mono hI2.row (fun _ _ => trivial)) _, pw_below_drewN hI2.below _⟩
    · rw [if_neg hlen] at h
      exact absurd h (by simp)

end Go.Proofs.Ytcnancjkajbldaa.P
