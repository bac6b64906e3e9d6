-- Printed by wip/pp.py of this claim's session (the kit's print over functions that are given by hand). Not trusted: Lean checks it.
import Derived.Test.YtcnancjkajbldaaPx0
import Derived.Test.YtcnancjkajbldaaPx5
import Derived.Test.YtcnancjkajbldaaPx7
import Derived.Test.YtcnancjkajbldaaPx17
import Derived.Test.YtcnancjkajbldaaPx24
import Derived.Test.YtcnancjkajbldaaPx27
namespace Go.Proofs.Ytcnancjkajbldaa.P
open Go.RowKit Go.Proofs.YtcnancjkajbldaaW.PrintWords Go.Proofs.YtcnancjkajbldaaW.PrintLast Go.Proofs.YtcnancjkajbldaaW.PrintMore
attribute [local go_sem] max2_int min2_int max_two min_two max_three min_three max_four min_four   -- for this text's walks alone
set_option linter.unusedVariables false
set_option linter.unusedSimpArgs false

/-! ### impl_firstCut: function 50 (given) -/
def impl_firstCut.step (k : Nat) (st : BSt) (s : List Int) : Option BSt :=
  (slices_Max_int_int.f k s).bind fun m => some (if st.2 = 0 then (s, wrap64 (m + 1)) else if wrap64 (m + 1) < st.2 then (s, wrap64 (m + 1)) else st)
def impl_firstCut.base (bar : Int) (left : List Int) (q : Nat) : List Int := if q = left.length then left ++ [bar] else left
def impl_firstCut.next (rails : List Int) (bar : Int) (i : Nat) (left : List Int) (q : Nat) : List Int := (impl_firstCut.base bar left q).set q (wrap64 (rd (impl_firstCut.base bar left q) (q : Int) - rd rails (i : Int)))
def impl_firstCut.cuts (k : Nat) (rails : List Int) (bar : Int) : Nat → List Int → List Int → BSt → Option BSt
  | 0, bg, _, st => impl_firstCut.step k st bg
  | d + 1, bg, left, st => bLoop (fun q st => if rd (impl_firstCut.next rails bar bg.length left q) (q : Int) ≥ 0 then impl_firstCut.cuts k rails bar d (bg ++ [(q : Int)]) (impl_firstCut.next rails bar bg.length left q) st else some st) (left.length + 1) 0 st
set_option maxRecDepth 100000 in
set_option maxHeartbeats 8000000 in
theorem impl_firstCut.visit (k : Nat) {w0 w : World} {g : Nat} (bg : List Int) (u v : Value) (st st' : BSt) (hI : BInv w0 w g st v) (hu : (Kd.int .i64).R 3 w w0.heap.size (fun k => ¬ BS g k) u bg) (hst : impl_firstCut.step k st bg = some st') :
    Calls Try.prog 74 #[u, .pointer (some ⟨g + 1, 0, none⟩), .pointer (some ⟨g, 0, none⟩)] w fun e w' => e = .returned (.tuple #[]) ∧ (∃ v', BInv w0 w' g st' v') ∧ Kept w w' (BS g) := by
  obtain ⟨Au, cu, rfl⟩ := Kd.R_slice hu
  unfold impl_firstCut.step at hst
  obtain ⟨m, hm, hst⟩ := Option.bind_eq_some_iff.mp hst
  have hs2 := Option.some.inj hst
  have hru := Kd.R_reads' hu
  have hmax := slices_Max_int_int.calls k Au cu bg m w hru.2.2 hru.2.1 hm
  obtain ⟨n, hn⟩ : ∃ n, wrap64 (m + 1) = n := ⟨_, rfl⟩
  rw [hn] at hs2
  obtain ⟨best, least⟩ := st
  have HU := Aside0.mk hu
  have HI := Aside0.mk hI
  have hwn : IntKind.i64.wrap (m + 1) = n := by rw [i64_w]; exact hn
  simp only at hs2
  clear hu hI hst hru hm
  by_cases c1 : least = 0
  · rw [if_pos c1] at hs2
    subst hs2
    have e0 : (least == 0) = true := beq_iff_eq.mpr c1
    have HC1 := Aside0.mk c1
    clear c1
    go_enter Try.func74, Try.ntmps74
    go_wp2_with (first | (go_at_call 46; go_loud (refine hmax.mono ?_; rintro e w1 ⟨rfl, hb⟩; have hI2 := HI.out.step hb; have f7 := cell_of_one hI2.h7; have f8 := cell_of_one hI2.h8; have g7 := free_of_one hI2.h7; have g8 := free_of_one hI2.h8)))
    go_end0
    exact ⟨rfl, ⟨_, hI2.put n _ bg (Kd.R_below HU.out hb)⟩, BInv.kept hb n _⟩
  · rw [if_neg c1] at hs2
    have e0 : (least == 0) = false := beq_eq_false_iff_ne.mpr c1
    clear c1
    by_cases c2 : n < least
    · rw [if_pos c2] at hs2
      subst hs2
      have e1 : decide (n < least) = true := decide_eq_true c2
      clear c2
      go_enter Try.func74, Try.ntmps74
      go_wp2_with (first | (go_at_call 46; go_loud (refine hmax.mono ?_; rintro e w1 ⟨rfl, hb⟩; have hI2 := HI.out.step hb; have f7 := cell_of_one hI2.h7; have f8 := cell_of_one hI2.h8; have g7 := free_of_one hI2.h7; have g8 := free_of_one hI2.h8)))
      go_end0
      exact ⟨rfl, ⟨_, hI2.put n _ bg (Kd.R_below HU.out hb)⟩, BInv.kept hb n _⟩
    · rw [if_neg c2] at hs2
      subst hs2
      have e1 : decide (n < least) = false := decide_eq_false c2
      clear c2
      go_enter Try.func74, Try.ntmps74
      go_wp2_with (first | (go_at_call 46; go_loud (refine hmax.mono ?_; rintro e w1 ⟨rfl, hb⟩; have hI2 := HI.out.step hb; have f7 := cell_of_one hI2.h7; have f8 := cell_of_one hI2.h8; have g7 := free_of_one hI2.h7; have g8 := free_of_one hI2.h8)))
      go_end0
      exact ⟨rfl, ⟨_, hI2⟩, Kept.of_below hb _⟩
set_option maxRecDepth 100000 in
set_option maxHeartbeats 16000000 in
theorem impl_firstCut.rec (k : Nat) {w0 : World} {g : Nat} {Ar : Option Addr} {cr : Nat} (rails : List Int) (bar : Int) (hrr : Kd.C (Kd.int .i64) w0 Ar rails.length rails) (hcr : rails.length ≤ cr) (hr100 : rails.length ≤ 100) :
    ∀ (d : Nat) (bg left : List Int) (u lv v : Value) (w : World) (st st' : BSt), BInv w0 w g st v → (Kd.int .i64).R 3 w w0.heap.size (fun k => ¬ BS g k) u bg → (Kd.int .i64).R 3 w w0.heap.size (fun k => ¬ BS g k) lv left → bg.length + d = rails.length → left.length ≤ bg.length → impl_firstCut.cuts k rails bar d bg left st = some st' →
    Calls Try.prog 73 #[.slice Ar rails.length cr, .int .i64 bar, u, lv, .func (.func 74) #[] #[.pointer (some ⟨g + 1, 0, none⟩), .pointer (some ⟨g, 0, none⟩)]] w fun e w' => e = .returned (.tuple #[]) ∧ (∃ v', BInv w0 w' g st' v') ∧ Kept w w' (BS g) := by
  have eg : ∀ args w, (callFunc 74 args).run Try.prog w = .ok (.enter 74 args) w := enters_of Try.func74 (by kernel_rfl) rfl
  have HRa := Aside0.mk hrr
  intro d
  induction d with
  | zero =>
    intro bg left u lv v w st st' hI hu hlv hl hll hst
    have hvis := impl_firstCut.visit k bg u v st st' hI hu hst
    obtain ⟨Au, cu, rfl⟩ := Kd.R_slice hu
    obtain ⟨Al, cl, rfl⟩ := Kd.R_slice hlv
    have dl : ((bg.length : Int) == (rails.length : Int)) = true := beq_iff_eq.mpr (by omega)
    clear hI hu hlv hl hst hrr hcr
    go_enter Try.func73, Try.ntmps73
    go_wp2_with (first | (go_at_fn 74; go_loud (refine hvis.mono ?_; rintro e w' ⟨rfl, hI2, hk⟩)))
    refine bodyPost_ret (results_none rfl _ _ _) rfl ?_
    exact ⟨rfl, hI2, hk⟩
  | succ d ih =>
    intro bg left u lv v w st st' hI hu hlv hl hll hst
    obtain ⟨Au, cu, rfl⟩ := Kd.R_slice hu
    obtain ⟨Al, cl, rfl⟩ := Kd.R_slice hlv
    have hru := Kd.R_reads' hu
    have hrl := Kd.R_reads' hlv
    have hclone := fun W hr => slices_Clone_int_int.calls Al cl left left W hr hrl.2.1 (by unfold slices_Clone_int_int.f; rw [if_pos (by omega)])
    have dl : ((bg.length : Int) == (rails.length : Int)) = false := beq_eq_false_iff_ne.mpr (by omega)
    obtain ⟨i0, hi0, _, hsz0, _⟩ := info_parts info3
    have hcut := cut_full Try.underlying22 hi0 hsz0 Au bg.length cu hru.2.1
    unfold impl_firstCut.cuts at hst
    have HU := Aside0.mk hu
    have HLv := Aside0.mk hlv
    have HI := Aside0.mk hI
    have HS := Aside0.mk hst
    have HIH := Aside0.mk ih
    have HL := Aside0.mk hl
    have hbr : bg.length < rails.length := by omega
    have hl100 : left.length ≤ 100 := by omega
    have hb100 : bg.length ≤ 100 := by omega
    clear hu hlv hI hst ih hl hrr hru hrl hi0 hsz0
    go_enter Try.func73, Try.ntmps73
    go_wp2
    go_loopg [11, 12, 25] (left.length + 1) (fun gg _ _ s25 wr => ∃ (q : Nat) (sti : BSt) (vi : Value), s25 = .int .i64 (q : Int) ∧ q ≤ left.length + 1 ∧ left.length + 1 - q ≤ gg ∧ Aside0 (bLoop (fun q st => if rd (impl_firstCut.next rails bar bg.length left q) (q : Int) ≥ 0 then impl_firstCut.cuts k rails bar d (bg ++ [(q : Int)]) (impl_firstCut.next rails bar bg.length left q) st else some st) (left.length + 1 - q) q sti = some st') ∧ Aside0 (BInv w0 wr g sti vi) ∧ Aside0 (Kept w wr (BS g)))
    case atStart => exact ⟨0, st, v, by go_num, Nat.zero_le _, by omega, HS, HI, ⟨Kept.refl _ _⟩⟩
    case round =>
      clear HS
      obtain ⟨q, sti, vi, rfl, hib, hgg, HVi, HIi, HK⟩ := hrel
      by_cases hlt : q < left.length + 1
      · have d1 : decide ((q : Int) < (left.length : Int) + 1) = true := decide_eq_true (by omega)
        have hi1 : left.length + 1 - q = (left.length + 1 - (q + 1)) + 1 := by omega
        have hvi := HVi.out
        rw [hi1, bLoop] at hvi
        obtain ⟨st1, hv1, hv2⟩ := Option.bind_eq_some_iff.mp hvi
        have hub := Kd.R_step (w1 := wr) HU.out (fun k hk hlt => HK.out.2 k hlt hk)
        have hlb := Kd.R_step (w1 := wr) HLv.out (fun k hk hlt => HK.out.2 k hlt hk)
        have HUi := Aside0.mk hub
        have HLi := Aside0.mk hlb
        have HV2 := Aside0.mk hv2
        obtain ⟨rail, hrail⟩ : ∃ rail, rd rails (bg.length : Int) = rail := ⟨_, rfl⟩
        have hszi := HIi.out.size
        have hloi := HIi.out.lo
        by_cases hq : q = left.length
        · subst hq
          have hnx : impl_firstCut.next rails bar bg.length left left.length = (left ++ [bar]).set left.length (wrap64 (bar - rail)) := by
            unfold impl_firstCut.next impl_firstCut.base
            rw [if_pos rfl, hrail]
            congr 2
            simp [rd]
          rw [hnx] at hv1
          have HV1 := Aside0.mk hv1
          clear hub hlb hv2 hvi HVi hi1 hv1 hnx
          go_wp2_with (first | (go_at_call 79; go_loud (refine (hclone _ (Kd.R_reads' HLi.out).2.2).mono ?_; rintro e w5 ⟨v5, rfl, hR5, hb5⟩; have HR5 := Aside0.mk hR5; have HB5 := Aside0.mk hb5; clear hR5 hb5)) | ((with_reducible refine gate_builtin (b := .append) (xs := #[.tmp 34, .tmp 36]) rfl ?_); go_loud (at_builtin; refine Kd.R_append (Kd.int .i64) (w0 := wr) wr.heap.size rfl (.tmp 34) (.tmp 36) 22 3 (.int .i64 0) 8 rfl Try.underlying22 info3 rfl (by decide) (by omega) v5 left bar [.int .i64 bar] (fun _ => True) (fun _ => False) rfl (by first | rfl | (go_simp; done) | (go_simp; rfl)) ?aP (fun _ hk => hk.elim) ?aF ?aO ?aB ?aS ?aL ?_; (case aP => exact rfl); (case aF => exact fun _ _ => trivial); (case aO => exact HR5.out); (case aB => exact HB5.out); (case aS => exact below_size HB5.out); (case aL => omega); intro v6 w6 ho hb hg hat; have HO6 := Aside0.mk ho; have HB6 := Aside0.mk hb; clear ho hb hg hat; obtain ⟨A6, c6, e6⟩ := Kd.R_slice HO6.out; subst e6)))
          obtain ⟨g6, cap6, hv6, hg6, hg7, hcells⟩ := Kd.R_form HO6.out (by simp)
          injection hv6 with ha6 hn6 hc6
          subst ha6 hc6
          obtain ⟨hx6, hfz6⟩ := Kd.R_celln (enc := Value.int .i64) (h1 := fun _ => rfl) (0 : Int) HO6.out (left.length : Int) (by omega) (by simp; omega)
          obtain ⟨ad8, e8, hx8⟩ := Kd.at_int (Kd.C_below (Kd.C_below HRa.out HIi.out.below) HB6.out) (bg.length : Int) (by omega) (by omega)
          cases e8
          have hput := Kd.R_putg HO6.out (left.length : Int) (wrap64 (bar - rail))
          rw [show rdOf (0 : Int) (left ++ [bar]) (left.length : Int) = bar from (by simp [rdOf])] at hx6
          rw [hrail] at hx8
          rw [Int.toNat_natCast] at hx6 hfz6 hput hx8
          have HPut := Aside0.mk hput
          have HG := Aside0.mk hg6
          have e0 := eq_true (show 0 ≤ (left.length : Int) by omega)
          have e1 := eq_true (show (left.length : Int) < ((left.length + 1 : Nat) : Int) by omega)
          have e2 := eq_true (show 0 ≤ (bg.length : Int) by omega)
          have e3 := eq_true (show (bg.length : Int) < (rails.length : Int) by omega)
          clear hput hg6 hg7 hcells hn6
          go_region
          have m7 := Kd.R_drew HPut.out.1
          have mb := below_drew1 (below_set (g := g6) (j := left.length) (v := .int .i64 (wrap64 (bar - rail))) HB6.out HG.out)
          rw [show (left ++ [bar]).length = left.length + 1 from by simp] at m7
          obtain ⟨y, hy⟩ : ∃ y, wrap64 (bar - rail) = y := ⟨_, rfl⟩
          have hv1 := HV1.out
          rw [hy] at m7 mb hv1 ⊢
          generalize (w6.setCell ⟨g6, left.length, none⟩ (.int .i64 y)).drew = w7 at m7 mb ⊢
          have hrd7 : rd ((left ++ [bar]).set left.length y) (left.length : Int) = y := by simp [rd]
          have hl7 : ((left ++ [bar]).set left.length y).length ≤ bg.length + 1 := by simp; omega
          rw [hrd7] at hv1
          have hrd8 : rdOf (0 : Int) ((left ++ [bar]).set left.length y) (left.length : Int) = y := hrd7
          obtain ⟨hx9, _⟩ := Kd.R_celln (enc := Value.int .i64) (h1 := fun _ => rfl) (0 : Int) m7 (left.length : Int) (by omega) (by omega)
          rw [hrd8, Int.toNat_natCast] at hx9
          generalize (left ++ [bar]).set left.length y = L7 at m7 hv1 hl7 hrd7 hrd8
          have M7 := Aside0.mk m7
          have MB := Aside0.mk mb
          clear m7 mb HPut HG HO6 HB6 HV1 hrd7 hrd8 hx6 hfz6 hx8
          by_cases hge : y ≥ 0
          · rw [if_pos hge] at hv1
            have HV3 := Aside0.mk hv1
            have d4 : decide (0 ≤ y) = true := decide_eq_true hge
            clear hv1 hge
            go_wp2_with (first | ((with_reducible refine gate_builtin (b := .append) (xs := #[.tmp 58, .tmp 60]) rfl ?_); go_loud (at_builtin; refine wp_append_fresh (w0 := w0) w0.heap.size rfl (.tmp 58) (.tmp 60) 22 3 (.int .i64 0) 8 rfl Try.underlying22 info3 rfl (by decide) Au bg (left.length : Int) (fun k => ¬ BS g k) rfl (by first | rfl | (go_simp; done) | (go_simp; rfl)) ?aF ?aO ?aS ?aL ?_; (case aF => intro k hk; have hk' : w7.heap.size ≤ k := hk; have := MB.out.size; unfold BS; omega); (case aO => exact Kd.C_below (Kd.R_reads' HUi.out).2.2 MB.out); (case aS => have := MB.out.size; omega); (case aL => omega); intro v1 w1 hR1 hb1; have HR1 := Aside0.mk hR1; have HB1 := Aside0.mk hb1; clear hR1 hb1)) | (go_at_call 73; go_loud (refine (HIH.out (bg ++ [(left.length : Int)]) L7 v1 _ vi w1 sti st1 (HIi.out.step (below_step MB.out HB1.out)) HR1.out (Kd.R_below (bo_lower M7.out HIi.out.lo HIi.out.size) HB1.out) (by have := HL.out; rw [List.length_append, List.length_singleton]; omega) (by rw [List.length_append, List.length_singleton]; omega) HV3.out).mono ?_; rintro e w' ⟨rfl, ⟨v2, hI2⟩, hk⟩)))
            go_roundg (left.length + 1 - (left.length + 1))
            case measure => omega
            case rel => exact ⟨left.length + 1, st1, v2, by go_num, by omega, Nat.le_refl _, HV2, ⟨hI2⟩, ⟨HK.out.then_ ((Kept.of_below (below_step MB.out HB1.out) (BS g)).then_ hk (fun _ h => .inl h)) (fun _ h => .inl h)⟩⟩
          · rw [if_neg hge] at hv1
            have d4 : decide (0 ≤ y) = false := decide_eq_false hge
            obtain rfl := Option.some.inj hv1
            clear hv1 hge
            go_wp2
            go_roundg (left.length + 1 - (left.length + 1))
            case measure => omega
            case rel => exact ⟨left.length + 1, sti, vi, by go_num, by omega, Nat.le_refl _, HV2, ⟨HIi.out.step MB.out⟩, ⟨HK.out.then_ (Kept.of_below MB.out (BS g)) (fun _ h => .inl h)⟩⟩
        · have dq : ((q : Int) == (left.length : Int)) = false := beq_eq_false_iff_ne.mpr (by omega)
          obtain ⟨ov, hov⟩ : ∃ ov, rd left (q : Int) = ov := ⟨_, rfl⟩
          have hnx : impl_firstCut.next rails bar bg.length left q = left.set q (wrap64 (ov - rail)) := by
            unfold impl_firstCut.next impl_firstCut.base
            rw [if_neg hq, hrail, hov]
          rw [hnx] at hv1
          have HV1 := Aside0.mk hv1
          have hqlt : q < left.length := by omega
          clear hub hlb hv2 hvi HVi hi1 hv1 hnx hq
          go_wp2_with (first | (go_at_call 79; go_loud (refine (hclone _ (Kd.R_reads' HLi.out).2.2).mono ?_; rintro e w6 ⟨v6, rfl, hR5, hb5⟩; have HO6 := Aside0.mk hR5; have HB6 := Aside0.mk hb5; clear hR5 hb5; obtain ⟨A6, c6, e6⟩ := Kd.R_slice HO6.out; subst e6)))
          obtain ⟨g6, cap6, hv6, hg6, hg7, hcells⟩ := Kd.R_form HO6.out (by omega)
          injection hv6 with ha6 hn6 hc6
          subst ha6 hc6
          obtain ⟨hx6, hfz6⟩ := Kd.R_celln (enc := Value.int .i64) (h1 := fun _ => rfl) (0 : Int) HO6.out (q : Int) (by omega) (by omega)
          obtain ⟨ad8, e8, hx8⟩ := Kd.at_int (Kd.C_below (Kd.C_below HRa.out HIi.out.below) HB6.out) (bg.length : Int) (by omega) (by omega)
          cases e8
          have hput := Kd.R_putg HO6.out (q : Int) (wrap64 (ov - rail))
          rw [show rdOf (0 : Int) (left) (q : Int) = ov from hov] at hx6
          rw [hrail] at hx8
          rw [Int.toNat_natCast] at hx6 hfz6 hput hx8
          have HPut := Aside0.mk hput
          have HG := Aside0.mk hg6
          have e0 := eq_true (show 0 ≤ (q : Int) by omega)
          have e1 := eq_true (show (q : Int) < (left.length : Int) by omega)
          have e2 := eq_true (show 0 ≤ (bg.length : Int) by omega)
          have e3 := eq_true (show (bg.length : Int) < (rails.length : Int) by omega)
          clear hput hg6 hg7 hcells hn6
          go_region
          have m7 := Kd.R_drew HPut.out.1
          have mb := below_drew1 (below_set (g := g6) (j := q) (v := .int .i64 (wrap64 (ov - rail))) HB6.out HG.out)
          skip
          obtain ⟨y, hy⟩ : ∃ y, wrap64 (ov - rail) = y := ⟨_, rfl⟩
          have hv1 := HV1.out
          rw [hy] at m7 mb hv1 ⊢
          generalize (w6.setCell ⟨g6, q, none⟩ (.int .i64 y)).drew = w7 at m7 mb ⊢
          have hrd7 : rd ((left).set q y) (q : Int) = y := by simp [rd, hqlt]
          have hl7 : ((left).set q y).length ≤ bg.length + 1 := by simp; omega
          rw [hrd7] at hv1
          have hrd8 : rdOf (0 : Int) ((left).set q y) (q : Int) = y := hrd7
          obtain ⟨hx9, _⟩ := Kd.R_celln (enc := Value.int .i64) (h1 := fun _ => rfl) (0 : Int) m7 (q : Int) (by omega) (by omega)
          rw [hrd8, Int.toNat_natCast] at hx9
          generalize (left).set q y = L7 at m7 hv1 hl7 hrd7 hrd8
          have M7 := Aside0.mk m7
          have MB := Aside0.mk mb
          clear m7 mb HPut HG HO6 HB6 HV1 hrd7 hrd8 hx6 hfz6 hx8
          by_cases hge : y ≥ 0
          · rw [if_pos hge] at hv1
            have HV3 := Aside0.mk hv1
            have d4 : decide (0 ≤ y) = true := decide_eq_true hge
            clear hv1 hge
            go_wp2_with (first | ((with_reducible refine gate_builtin (b := .append) (xs := #[.tmp 58, .tmp 60]) rfl ?_); go_loud (at_builtin; refine wp_append_fresh (w0 := w0) w0.heap.size rfl (.tmp 58) (.tmp 60) 22 3 (.int .i64 0) 8 rfl Try.underlying22 info3 rfl (by decide) Au bg (q : Int) (fun k => ¬ BS g k) rfl (by first | rfl | (go_simp; done) | (go_simp; rfl)) ?aF ?aO ?aS ?aL ?_; (case aF => intro k hk; have hk' : w7.heap.size ≤ k := hk; have := MB.out.size; unfold BS; omega); (case aO => exact Kd.C_below (Kd.R_reads' HUi.out).2.2 MB.out); (case aS => have := MB.out.size; omega); (case aL => omega); intro v1 w1 hR1 hb1; have HR1 := Aside0.mk hR1; have HB1 := Aside0.mk hb1; clear hR1 hb1)) | (go_at_call 73; go_loud (refine (HIH.out (bg ++ [(q : Int)]) L7 v1 _ vi w1 sti st1 (HIi.out.step (below_step MB.out HB1.out)) HR1.out (Kd.R_below (bo_lower M7.out HIi.out.lo HIi.out.size) HB1.out) (by have := HL.out; rw [List.length_append, List.length_singleton]; omega) (by rw [List.length_append, List.length_singleton]; omega) HV3.out).mono ?_; rintro e w' ⟨rfl, ⟨v2, hI2⟩, hk⟩)))
            go_roundg (left.length + 1 - (q + 1))
            case measure => omega
            case rel => exact ⟨q + 1, st1, v2, by go_num, by omega, Nat.le_refl _, HV2, ⟨hI2⟩, ⟨HK.out.then_ ((Kept.of_below (below_step MB.out HB1.out) (BS g)).then_ hk (fun _ h => .inl h)) (fun _ h => .inl h)⟩⟩
          · rw [if_neg hge] at hv1
            have d4 : decide (0 ≤ y) = false := decide_eq_false hge
            obtain rfl := Option.some.inj hv1
            clear hv1 hge
            go_wp2
            go_roundg (left.length + 1 - (q + 1))
            case measure => omega
            case rel => exact ⟨q + 1, sti, vi, by go_num, by omega, Nat.le_refl _, HV2, ⟨HIi.out.step MB.out⟩, ⟨HK.out.then_ (Kept.of_below MB.out (BS g)) (fun _ h => .inl h)⟩⟩
      · have d1 : decide ((q : Int) < (left.length : Int) + 1) = false := decide_eq_false (by omega)
        have e0 : left.length + 1 - q = 0 := by omega
        have hvi := HVi.out
        rw [e0] at hvi
        have hvi2 : some sti = some st' := hvi
        obtain rfl := Option.some.inj hvi2
        have HE := Aside0.mk HIi.out
        clear hvi hvi2 HVi e0
        go_wp2
        go_end0
        exact ⟨rfl, ⟨_, HE.out⟩, HK.out⟩
theorem fc_start (w : World) (n : Int) : BInv w (((w.alloc (.cells #[] 3)).alloc (.cells #[.slice (some ⟨w.heap.size, 0, none⟩) 0 0] 22)).alloc (.cells #[.int .i64 n] 3)) (w.heap.size + 1) ([], n) (.slice (some ⟨w.heap.size, 0, none⟩) 0 0) := by
  have s1 : (w.alloc (.cells #[] 3)).heap.size = w.heap.size + 1 := by simp
  have h := bo_start w (w.alloc (.cells #[] 3)) (below_alloc (Below.refl _ _) _) (.slice (some ⟨w.heap.size, 0, none⟩) 0 0) n (fun W hW => bo_empty (blk_below (blk_new w _) hW) (Nat.le_refl _) (by rw [s1]; unfold BS; omega))
  rw [s1] at h
  exact h
theorem impl_firstCut.mono_cuts (k : Nat) (rails : List Int) (bar : Int) : ∀ (d : Nat) (bg left : List Int) (st : BSt), LeO (impl_firstCut.cuts k rails bar d bg left st) (impl_firstCut.cuts (k + 1) rails bar d bg left st)
  | 0, bg, left, st => LeO.bind (slices_Max_int_int.mono _ k) (fun _ => LeO.refl _)
  | d + 1, bg, left, st => bLoop_mono (fun q st => LeO.ite (impl_firstCut.mono_cuts k rails bar d _ _ _) (LeO.refl _)) _ _ _
def impl_firstCut.f (k : Nat) (rails : List Int) (bar : Int) : Option (List Int × Int) := if rails.length ≤ 100 then impl_firstCut.cuts k rails bar rails.length [] [] ([], 0) else none
theorem impl_firstCut.mono : ∀ a0 a1 k, LeO (impl_firstCut.f k a0 a1) (impl_firstCut.f (k + 1) a0 a1) := by
  intro a0 a1 k
  unfold impl_firstCut.f
  exact LeO.ite (impl_firstCut.mono_cuts k a0 a1 _ _ _ _) (LeO.refl _)
set_option maxRecDepth 100000 in
set_option maxHeartbeats 8000000 in
theorem impl_firstCut.calls (k : Nat) (A0 : Option Addr) (c0 : Nat) (l0 : List Int) (a1 : Int) (r1 : List Int) (r2 : Int) (w : World) (hr0 : Kd.C (Kd.int .i64) w A0 l0.length l0) (hc0 : l0.length ≤ c0) (h : impl_firstCut.f k l0 a1 = some (r1, r2)) :
    Calls Try.prog 50 #[.slice A0 l0.length c0, .int .i64 a1] w fun e w' => ∃ v0_ : Value, e = .returned (.tuple #[v0_, .int .i64 r2]) ∧ Kd.R (Kd.int .i64) 3 w' w.heap.size (fun _ => True) v0_ r1 ∧ Below w.heap.size w w' := by
  have hmf : ∀ (fn : Fn) (first cap : Array Value) (w : World), (Instr.makeFunc fn first cap).run Try.prog w = .ok (.func fn first cap) w := fun _ _ _ _ => rfl
  unfold impl_firstCut.f at h
  by_cases hlen : l0.length ≤ 100
  · rw [if_pos hlen] at h
    have hrec := fun u lv v w1 hI hu hlv => impl_firstCut.rec k (w0 := w) (g := w.heap.size + 1) (Ar := A0) (cr := c0) l0 a1 hr0 hc0 hlen l0.length [] [] u lv v w1 ([], 0) (r1, r2) hI hu hlv (by simp) (Nat.le_refl _) h
    clear h hr0
    go_enter Try.func50, Try.ntmps50
    go_wp2_with (first | (go_at_call 73; go_loud (refine (hrec _ _ _ _ (fc_start w 0) (Kd.R_nil _ _ _ _ _) (Kd.R_nil _ _ _ _ _)).mono ?_; rintro e w' ⟨rfl, ⟨v2, hI2⟩, hk⟩; have f7 : w'.cell? ⟨w.heap.size + 1, 0, none⟩ = some v2 := cell_of_one hI2.h7; have f8 : w'.cell? ⟨w.heap.size + 1 + 1, 0, none⟩ = some (.int .i64 r2) := cell_of_one hI2.h8)))
    repeat (go_quiet (fail); try go_wp2)
    go_ret2
    exact ⟨_, rfl, Kd.R_drewN (Kd.R_mono hI2.row (fun _ _ => trivial)) _, pw_below_drewN hI2.below _⟩
  · rw [if_neg hlen] at h
    exact absurd h (by simp)

/-! ### impl_FewestBars: function 30 -/
def impl_FewestBars.f (k : Nat) (l0 : List Int) (a1 : Int) : Option (Int × Bool) := (impl_areBarred.f l0 a1).bind fun t552 => (if t552 = true then ((impl_firstCut.f k l0 a1).bind fun bt553 => (some (bt553.2, decide (bt553.2 > 0)))) else (some (0, false)))
theorem impl_FewestBars.mono : ∀ a0 a1 k, LeO (impl_FewestBars.f k a0 a1) (impl_FewestBars.f (k + 1) a0 a1) := by
  intro a0 a1 k
  unfold impl_FewestBars.f
  repeat' first
      | (with_reducible exact impl_firstCut.mono _ _ _)
      | (with_reducible exact LeO.refl _)
      | (with_reducible exact LeO.none _)
      | (with_reducible refine LeO.ite ?_ ?_)
      | (with_reducible refine LeO.bind ?_ (fun _ => ?_))
      | exact impl_firstCut.mono _ _ _
      | exact LeO.none _
      | refine LeO.ite ?_ ?_
      | refine LeO.bind ?_ (fun _ => ?_)
set_option maxHeartbeats 8000000 in
set_option maxRecDepth 100000 in
theorem impl_FewestBars.calls (k : Nat) (A0 : Option Addr) (c0 : Nat) (l0 : List Int) (a1 : Int) (r1 : Int) (r2 : Bool) (w : World) (hr0 : Kd.C (Kd.int .i64) w A0 l0.length l0) (hc0 : l0.length ≤ c0) (h : impl_FewestBars.f k l0 a1 = some (r1, r2)) :
    Calls Try.prog 30 #[.slice A0 l0.length c0, .int .i64 a1] w fun e w' => e = .returned (.tuple #[.int .i64 r1, .bool r2]) ∧ Below w.heap.size w w' := by
  have HR0 := Aside0.mk hr0
  have HC0 := Aside0.mk hc0
  clear hr0 hc0
  have HB := Aside0.mk (Below.refl w.heap.size w)
  have H : ((impl_areBarred.f l0 a1).bind fun t552 => (if t552 = true then ((impl_firstCut.f k l0 a1).bind fun bt553 => (some (bt553.2, decide (bt553.2 > 0)))) else (some (0, false)))) = some (r1, r2) := h
  clear h
  replace H := Option.bind_eq_some_iff.mp H
  obtain ⟨t552, A30, H⟩ := H
  replace H : (if t552 = true then ((impl_firstCut.f k l0 a1).bind fun bt553 => (some (bt553.2, decide (bt553.2 > 0)))) else (some (0, false))) = some (r1, r2) := H
  have A3 := Aside0.mk A30
  clear A30
  by_cases c4 : t552 = true
  · subst c4
    have H1 : ((impl_firstCut.f k l0 a1).bind fun bt553 => (some (bt553.2, decide (bt553.2 > 0)))) = some (r1, r2) := by rw [if_pos rfl] at H; exact H
    clear H
    have H := H1
    clear H1
    replace H := Option.bind_eq_some_iff.mp H
    obtain ⟨⟨t553, t554⟩, A50, H⟩ := H
    replace H : (some (t554, decide (t554 > 0))) = some (r1, r2) := H
    have A5 := Aside0.mk A50
    clear A50
    simp only [Option.some.injEq, Prod.mk.injEq] at H
    obtain ⟨rfl, rfl⟩ := H
    go_enter Try.func30, Try.ntmps30
    go_wp2_with (first | ((with_reducible refine gate_callee (f := 45) rfl ?_); refine goesL_ (some 10) rfl rfl Try.func45 (by kernel_rfl) rfl #[.slice A0 l0.length c0, .int .i64 a1] rfl (by (try simp only [List.map_toArray, List.map_cons, List.map_nil]); first | done | rfl | (simp only [List.length_drop, List.length_take]; rfl)) ?_; (with_reducible refine (impl_areBarred.calls _ _ l0 a1 true _ ?side1 ?side2 A3.out).mono ?_); (case side1 => repeat (first | exact HR0.out | (with_reducible refine Kd.C_alloc ?_ _) | (with_reducible refine Kd.C_drewN ?_ _) | (with_reducible refine Kd.C_drew ?_))); (case side2 => exact HC0.out); rintro e w6 ⟨rfl, hb⟩; refine ⟨_, rfl, ?_⟩; have n0_ := Aside0.mk (below_step (by repeat (first | (with_reducible first | exact HB.out | apply below_alloc | apply pw_below_drewN | apply below_drew1) | exact HB.out)) hb); clear HB; have HB := n0_; clear n0_; (try clear hb); (try clear hb2); (try clear hk); (try clear hi)) | ((with_reducible refine gate_callee (f := 50) rfl ?_); refine goesL_ (some 15) rfl rfl Try.func50 (by kernel_rfl) rfl #[.slice A0 l0.length c0, .int .i64 a1] rfl (by (try simp only [List.map_toArray, List.map_cons, List.map_nil]); first | done | rfl | (simp only [List.length_drop, List.length_take]; rfl)) ?_; (with_reducible refine (impl_firstCut.calls k _ _ l0 a1 t553 t554 _ ?side1 ?side2 A5.out).mono ?_); (case side1 => repeat (first | exact (Kd.C_below HR0.out HB.out) | (with_reducible refine Kd.C_alloc ?_ _) | (with_reducible refine Kd.C_drewN ?_ _) | (with_reducible refine Kd.C_drew ?_))); (case side2 => exact HC0.out); rintro e w7 ⟨v555, rfl, ho0, hb⟩; refine ⟨_, rfl, ?_⟩; have n0_ := Aside0.mk (Kd.R_lower ho0 (below_size (by repeat (first | (with_reducible first | exact HB.out | apply below_alloc | apply pw_below_drewN | apply below_drew1) | exact HB.out)))); have n1_ := Aside0.mk (below_step (by repeat (first | (with_reducible first | exact HB.out | apply below_alloc | apply pw_below_drewN | apply below_drew1) | exact HB.out)) hb); clear HB; have HO556 := n0_; have HB := n1_; clear n0_ n1_; (try clear hb); (try clear hb2); (try clear hk); (try clear hi); (try clear ho0)))
    go_ret2
    exact ⟨by first | rfl | (simp [errW_none, errW_some] <;> rfl) | (simp [*, errW_none, errW_some] <;> rfl), by repeat (first | (with_reducible first | exact HB.out | apply below_alloc | apply pw_below_drewN | apply below_drew1) | exact HB.out)⟩
  · replace c4 := Bool.eq_false_iff.mpr c4
    subst c4
    have H1 : (some (0, false)) = some (r1, r2) := by rw [if_neg (show ¬ (false = true) by decide)] at H; exact H
    clear H
    have H := H1
    clear H1
    simp only [Option.some.injEq, Prod.mk.injEq] at H
    obtain ⟨rfl, rfl⟩ := H
    go_enter Try.func30, Try.ntmps30
    go_wp2_with (first | ((with_reducible refine gate_callee (f := 45) rfl ?_); refine goesL_ (some 10) rfl rfl Try.func45 (by kernel_rfl) rfl #[.slice A0 l0.length c0, .int .i64 a1] rfl (by (try simp only [List.map_toArray, List.map_cons, List.map_nil]); first | done | rfl | (simp only [List.length_drop, List.length_take]; rfl)) ?_; (with_reducible refine (impl_areBarred.calls _ _ l0 a1 false _ ?side1 ?side2 A3.out).mono ?_); (case side1 => repeat (first | exact HR0.out | (with_reducible refine Kd.C_alloc ?_ _) | (with_reducible refine Kd.C_drewN ?_ _) | (with_reducible refine Kd.C_drew ?_))); (case side2 => exact HC0.out); rintro e w8 ⟨rfl, hb⟩; refine ⟨_, rfl, ?_⟩; have n0_ := Aside0.mk (below_step (by repeat (first | (with_reducible first | exact HB.out | apply below_alloc | apply pw_below_drewN | apply below_drew1) | exact HB.out)) hb); clear HB; have HB := n0_; clear n0_; (try clear hb); (try clear hb2); (try clear hk); (try clear hi)))
    go_ret2
    exact ⟨by first | rfl | (simp [errW_none, errW_some] <;> rfl) | (simp [*, errW_none, errW_some] <;> rfl), by repeat (first | (with_reducible first | exact HB.out | apply below_alloc | apply pw_below_drewN | apply below_drew1) | exact HB.out)⟩

end Go.Proofs.Ytcnancjkajbldaa.P
