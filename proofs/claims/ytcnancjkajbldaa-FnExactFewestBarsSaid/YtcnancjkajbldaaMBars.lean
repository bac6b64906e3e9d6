/- Bars and rails: the fewest bars by trying all cuts are the fewest bars that can be filled. -/
import Derived.Test.YtcnancjkajbldaaPx16
import Derived.Test.YtcnancjkajbldaaPx17
import Derived.Test.YtcnancjkajbldaaPx26
import Derived.Test.YtcnancjkajbldaaPx27
import Derived.Test.YtcnancjkajbldaaPx28
import Derived.Test.YtcnancjkajbldaaMBase
import Derived.Test.YtcnancjkajbldaaMAll
import Derived.Test.YtcnancjkajbldaaMMax
import Derived.Test.YtcnancjkajbldaaMFit
namespace Go.Proofs.Ytcnancjkajbldaa.M
open Go.RowKit Go.Proofs.Ytcnancjkajbldaa.P Go.Proofs.YtcnancjkajbldaaW.PrintWords Go.Proofs.Ytcnancjkajbldaa.M
set_option linter.unusedVariables false
set_option linter.unusedSimpArgs false

theorem wone' (n : Nat) (h : n ≤ 1000000) : wrap64 ((n : Int) + 1) = ((n + 1 : Nat) : Int) := by rw [wrap_id (by omega) (by omega)]; rfl
theorem wpred' (n : Nat) (h : n ≤ 1000000) : wrap64 (((n + 1 : Nat) : Int) - 1) = (n : Int) := by rw [wrap_id (by omega) (by omega)]; omega
theorem wsm {v : Int} (h : -1000000 ≤ v ∧ v ≤ 1000000) : wrap64 v = v := wrap_id (by omega) (by omega)
def fitsP : List Int → List Int → Prop
  | [], _ => True
  | x :: rs, R => ∃ v, v ∈ R ∧ x ≤ v ∧ fitsP rs ((v - x) :: R.erase v)
theorem fitsP_perm : ∀ (rs R R' : List Int), R.Perm R' → fitsP rs R → fitsP rs R'
  | [], _, _, _, _ => trivial
  | _ :: rs, _, _, hp, ⟨v, hv, hx, hf⟩ => ⟨v, hp.mem_iff.1 hv, hx, fitsP_perm rs _ _ ((hp.erase v).cons _) hf⟩
theorem set_perm : ∀ (R : List Int) (q : Nat) (h : q < R.length) (y : Int), (R.set q y).Perm (y :: R.erase R[q])
  | [], _, h, _ => absurd h (Nat.not_lt_zero _)
  | a :: R, 0, _, y => by
    rw [List.set_cons_zero]
    show (y :: R).Perm (y :: (a :: R).erase a)
    rw [List.erase_cons_head]
  | a :: R, q + 1, h, y => by
    have hq : q < R.length := by rw [List.length_cons] at h; omega
    rw [List.set_cons_succ]
    show (a :: R.set q y).Perm (y :: (a :: R).erase R[q])
    have ih := set_perm R q hq y
    by_cases e : a = R[q]
    · rw [← e, List.erase_cons_head]
      rw [← e] at ih
      have hm : a ∈ R := by rw [e]; exact List.getElem_mem hq
      exact (ih.cons a).trans ((List.Perm.swap y a _).trans ((List.perm_cons_erase hm).symm.cons y))
    · rw [List.erase_cons_tail (by simpa using e)]
      exact (ih.cons a).trans (List.Perm.swap y a _)
theorem fitsP_idx (x : Int) (rs R : List Int) : fitsP (x :: rs) R ↔ ∃ (q : Nat) (h : q < R.length), x ≤ R[q] ∧ fitsP rs (R.set q (R[q] - x)) := by
  constructor
  · rintro ⟨v, hv, hx, hf⟩
    obtain ⟨q, hq, rfl⟩ := List.getElem_of_mem hv
    exact ⟨q, hq, hx, fitsP_perm _ _ _ (set_perm R q hq _).symm hf⟩
  · rintro ⟨q, hq, hx, hf⟩
    exact ⟨R[q], List.getElem_mem hq, hx, fitsP_perm _ _ _ (set_perm R q hq _) hf⟩
theorem fits_own (bar : Int) : ∀ (rs zs : List Int), (∀ x ∈ rs, x ≤ bar) → fitsP rs (zs ++ List.replicate rs.length bar)
  | [], _, _ => trivial
  | x :: rs, zs, h => by
    rw [List.length_cons, List.replicate_succ]
    refine fitsP_perm _ _ _ List.perm_middle.symm ?_
    refine ⟨bar, List.mem_cons_self, h x List.mem_cons_self, ?_⟩
    rw [List.erase_cons_head]
    exact fits_own bar rs ((bar - x) :: zs) (fun y hy => h y (List.mem_cons_of_mem _ hy))
theorem fits_max (b : Int) : ∀ (rs R : List Int), fitsP rs R → (∀ v ∈ R, v ≤ b) → (∀ x ∈ rs, 0 ≤ x) → ∀ x ∈ rs, x ≤ b
  | [], _, _, _, _ => fun x hx => by simp at hx
  | y :: rs, R, ⟨v, hv, hx, hf⟩, hR, h0 => by
    have hvb := hR v hv
    have hy0 := h0 y List.mem_cons_self
    intro x hxm
    rcases List.mem_cons.1 hxm with rfl | hxm
    · omega
    · refine fits_max b rs _ hf (fun u hu => ?_) (fun z hz => h0 z (List.mem_cons_of_mem _ hz)) x hxm
      rcases List.mem_cons.1 hu with rfl | hu
      · omega
      · exact hR u (List.mem_of_mem_erase hu)
theorem base_len (bar : Int) (left : List Int) (q : Nat) (h : q ≤ left.length) : q < (impl_firstCut.base bar left q).length ∧ left.length ≤ (impl_firstCut.base bar left q).length ∧ (impl_firstCut.base bar left q).length ≤ left.length + 1 := by
  unfold impl_firstCut.base
  by_cases e : q = left.length
  · rw [if_pos e, List.length_append, List.length_singleton]; omega
  · rw [if_neg e]; omega
theorem base_rep (bar : Int) (left : List Int) (q n : Nat) (hn : (impl_firstCut.base bar left q).length ≤ n) : left ++ List.replicate (n - left.length) bar = impl_firstCut.base bar left q ++ List.replicate (n - (impl_firstCut.base bar left q).length) bar := by
  unfold impl_firstCut.base at hn ⊢
  by_cases e : q = left.length
  · rw [if_pos e] at hn ⊢
    rw [List.length_append, List.length_singleton] at hn ⊢
    rw [show n - left.length = (n - (left.length + 1)) + 1 from by omega, List.replicate_succ, List.append_assoc]
    rfl
  · rw [if_neg e]
def reachP (bar : Int) : List Int → List Int → Nat → Prop
  | [], left, n => left.length = n
  | x :: rs, left, n => ∃ q, q ≤ left.length ∧ x ≤ (impl_firstCut.base bar left q).getD q 0 ∧ reachP bar rs ((impl_firstCut.base bar left q).set q ((impl_firstCut.base bar left q).getD q 0 - x)) n
theorem getD_get {l : List Int} {q : Nat} (h : q < l.length) : l.getD q 0 = l[q] := by
  rw [List.getD_eq_getElem?_getD, List.getElem?_eq_getElem h]; rfl
theorem reach_fits (bar : Int) : ∀ (rs left : List Int) (n : Nat), reachP bar rs left n → left.length ≤ n ∧ fitsP rs (left ++ List.replicate (n - left.length) bar)
  | [], left, n, h => ⟨Nat.le_of_eq h, trivial⟩
  | x :: rs, left, n, ⟨q, hq, hx, hr⟩ => by
    obtain ⟨b1, b2, b3⟩ := base_len bar left q hq
    obtain ⟨h1, h2⟩ := reach_fits bar rs _ n hr
    rw [List.length_set] at h1 h2
    refine ⟨by omega, ?_⟩
    rw [base_rep bar left q n h1, fitsP_idx]
    have hl : q < (impl_firstCut.base bar left q ++ List.replicate (n - (impl_firstCut.base bar left q).length) bar).length := by rw [List.length_append]; omega
    refine ⟨q, hl, ?_, ?_⟩
    · rw [List.getElem_append_left b1, ← getD_get b1]
      exact hx
    · rw [List.getElem_append_left b1, ← getD_get b1, List.set_append_left _ _ b1]
      exact h2
theorem fits_reach (bar : Int) : ∀ (rs left : List Int) (m : Nat), fitsP rs (left ++ List.replicate m bar) → ∃ n, n ≤ left.length + m ∧ reachP bar rs left n
  | [], left, m, _ => ⟨left.length, by omega, rfl⟩
  | x :: rs, left, m, ⟨v, hv, hx, hf⟩ => by
    by_cases hvl : v ∈ left
    · obtain ⟨q, hq, rfl⟩ := List.getElem_of_mem hvl
      have hb : impl_firstCut.base bar left q = left := by unfold impl_firstCut.base; rw [if_neg (by omega)]
      rw [List.erase_append_left _ hvl] at hf
      have hp := (set_perm left q hq (left[q] - x)).symm.append_right (List.replicate m bar)
      obtain ⟨n, hn, hr⟩ := fits_reach bar rs (left.set q (left[q] - x)) m (fitsP_perm _ _ _ hp hf)
      rw [List.length_set] at hn
      refine ⟨n, hn, q, by omega, ?_, ?_⟩
      · rw [hb, getD_get hq]; exact hx
      · rw [hb, getD_get hq]; exact hr
    · have hvr : v ∈ List.replicate m bar := (List.mem_append.1 hv).resolve_left hvl
      obtain ⟨hm, rfl⟩ := List.mem_replicate.1 hvr
      obtain ⟨m', rfl⟩ : ∃ m', m = m' + 1 := ⟨m - 1, by omega⟩
      rw [List.erase_append_right _ hvl, List.replicate_succ, List.erase_cons_head] at hf
      have hp : ((v - x) :: (left ++ List.replicate m' v)).Perm ((left ++ [v - x]) ++ List.replicate m' v) := by
        rw [List.append_assoc]
        exact List.perm_middle.symm
      obtain ⟨n, hn, hr⟩ := fits_reach v rs (left ++ [v - x]) m' (fitsP_perm _ _ _ hp hf)
      rw [List.length_append, List.length_singleton] at hn
      have hb : impl_firstCut.base v left left.length = left ++ [v] := by unfold impl_firstCut.base; rw [if_pos rfl]
      have hg : (left ++ [v]).getD left.length 0 = v := by simp
      refine ⟨n, by omega, left.length, Nat.le_refl _, ?_, ?_⟩
      · rw [hb, hg]; exact hx
      · rw [hb, hg, List.set_append_right _ _ (Nat.le_refl _), Nat.sub_self]
        exact hr
theorem own_f (l : List Int) (h : l.length ≤ 1000) : spec_l1Own.f l = some l := by
  unfold spec_l1Own.f
  rw [Option.bind_some, List.nil_append, if_pos (by rw [List.length_nil]; omega)]
theorem poCut_ev (rails : List Int) (hr : ∀ x ∈ rails, 1 ≤ x ∧ x ≤ 500) (hl : rails.length ≤ 8) (h0 : 0 < rails.length) (d : Nat) : ∀ (bg R : List Int), bg.length + d = rails.length → R.length ≤ 100 → (∀ v ∈ R, 0 ≤ v ∧ v ≤ 500) →
    ∃ out : List Int, Ev (fun k => spec_poCut.f k rails bg R) out ∧ (out.length > 0 ↔ fitsP (rails.drop bg.length) R) := by
  induction d with
  | zero =>
    intro bg R hb hR hv
    have c1 : (bg.length : Int) = (rails.length : Int) := by omega
    refine ⟨bg, Ev.step (f := fun _ => some bg) (fun k => ?_) (Ev.now _), ?_⟩
    · simp only [spec_poCut.f]
      rw [if_pos c1, own_f bg (by omega)]
      rfl
    · rw [List.drop_eq_nil_of_le (by omega)]
      exact ⟨fun _ => trivial, fun _ => by omega⟩
  | succ d ih =>
    intro bg R hb hR hv
    have hbl : bg.length < rails.length := by omega
    have hx := hr rails[bg.length] (List.getElem_mem hbl)
    have hrd := rd_get rails bg.length hbl
    rw [List.drop_eq_getElem_cons hbl]
    have hnext := fun q => ih (bg ++ [q])
    generalize rails[bg.length] = x at hx hrd ⊢
    have c3 : 0 ≤ (bg.length : Int) := by omega
    have c4 : (bg.length : Int) < (rails.length : Int) := by omega
    have loop : ∀ (m q : Nat), q + m = R.length → (∀ j (hj : j < R.length), j < q → ¬ (x ≤ R[j] ∧ fitsP (rails.drop (bg.length + 1)) (R.set j (R[j] - x)))) → ∃ out : List Int, Ev (fun k => spec_poCut.l0 k rails bg R (bg.length : Int) R (R.length : Int) (q : Int)) out ∧ (out.length > 0 ↔ fitsP (x :: rails.drop (bg.length + 1)) R) := by
      intro m
      induction m with
      | zero =>
        intro q hq hno
        have c1 : ¬ (q : Int) < (R.length : Int) := by omega
        refine ⟨[], Ev.step (f := fun _ => some []) (fun k => ?_) (Ev.now _), ?_⟩
        · simp only [spec_poCut.l0]
          rw [if_neg c1]
        · rw [fitsP_idx]
          constructor
          · intro h; simp at h
          · rintro ⟨j, hj, h1, h2⟩
            exact absurd ⟨h1, h2⟩ (hno j hj (by omega))
      | succ m ihm =>
        intro q hq hno
        have hqR : q < R.length := by omega
        have c1 : (q : Int) < (R.length : Int) := by omega
        have c2 : 0 ≤ (q : Int) := by omega
        have hrq := rd_get R q hqR
        have hvq := hv R[q] (List.getElem_mem hqR)
        have hq1000 : q ≤ 1000000 := by omega
        by_cases hgt : x > R[q]
        · obtain ⟨out, h1, h2⟩ := ihm (q + 1) (by omega) (fun j hj hjq => by
            by_cases e : j = q
            · subst e; exact fun h => absurd h.1 (by omega)
            · exact hno j hj (by omega))
          refine ⟨out, Ev.step (fun k => ?_) h1, h2⟩
          simp only [spec_poCut.l0]
          rw [if_pos c1, if_pos c2, if_pos c1, if_pos c3, if_pos c4, hrd, hrq, if_pos hgt, wone' q hq1000]
        · have hsb : -1000000 ≤ R[q] - x ∧ R[q] - x ≤ 1000000 := by omega
          obtain ⟨o1, e1, f1⟩ := hnext (q : Int) (R.set q (R[q] - x)) (by rw [List.length_append, List.length_singleton]; omega) (by rw [List.length_set]; exact hR) (fun v h => by
            rcases List.mem_or_eq_of_mem_set h with h | rfl
            · exact hv v h
            · omega)
          rw [List.length_append, List.length_singleton] at f1
          have hbo : bg.length < 17592186044416 := by omega
          have hstep : ∀ (F : Nat → Option (List Int)), (∀ k, F (k + 1) = (spec_poCut.f k rails (bg ++ [(q : Int)]) (R.set q (R[q] - x))).bind fun t => if (t.length : Int) > 0 then some t else spec_poCut.l0 k rails bg R (bg.length : Int) R (R.length : Int) ((q + 1 : Nat) : Int)) → ∀ out, Ev (fun k => if (o1.length : Int) > 0 then some o1 else spec_poCut.l0 k rails bg R (bg.length : Int) R (R.length : Int) ((q + 1 : Nat) : Int)) out → Ev F out :=
            fun F hF out h => Ev.step hF (Ev.bind e1 h)
          have hF : ∀ k, spec_poCut.l0 (k + 1) rails bg R (bg.length : Int) R (R.length : Int) (q : Int) = (spec_poCut.f k rails (bg ++ [(q : Int)]) (R.set q (R[q] - x))).bind fun t => if (t.length : Int) > 0 then some t else spec_poCut.l0 k rails bg R (bg.length : Int) R (R.length : Int) ((q + 1 : Nat) : Int) := fun k => by
            simp only [spec_poCut.l0]
            rw [if_pos c1, if_pos c2, if_pos c1, if_pos c3, if_pos c4, hrd, hrq, if_neg hgt, own_f R (by omega), Option.bind_some, if_pos c1, own_f bg (by omega), Option.bind_some, if_pos hbo, hrq, wsm hsb, wone' q hq1000, Int.toNat_natCast]
          by_cases hpos : o1.length > 0
          · have hpi : (o1.length : Int) > 0 := by omega
            refine ⟨o1, hstep _ hF o1 ?_, ?_⟩
            · simp only [if_pos hpi]
              exact Ev.now _
            · rw [fitsP_idx]
              exact ⟨fun h => ⟨q, hqR, by omega, f1.1 h⟩, fun _ => hpos⟩
          · have hpi : ¬ (o1.length : Int) > 0 := by omega
            obtain ⟨out, h1, h2⟩ := ihm (q + 1) (by omega) (fun j hj hjq => by
              by_cases e : j = q
              · subst e; exact fun h => hpos (f1.2 h.2)
              · exact hno j hj (by omega))
            refine ⟨out, hstep _ hF out ?_, h2⟩
            simp only [if_neg hpi]
            exact h1
    have c0 : ¬ (bg.length : Int) = (rails.length : Int) := by omega
    obtain ⟨out, h1, h2⟩ := loop R.length 0 (by omega) (fun j _ h => absurd h (Nat.not_lt_zero _))
    refine ⟨out, Ev.step (fun k => ?_) h1, h2⟩
    simp only [spec_poCut.f]
    rw [if_neg c0]
    rfl
theorem poBars_ev (bar : Int) (b : Nat) (hb : b ≤ 100) : Ev (fun k => spec_poBars.f k (b : Int) bar) (List.replicate b bar) := by
  have h : ∀ (q : Nat) (out : List Int), q ≤ 100 → out.length ≤ 100 → Ev (fun k => spec_poBars.l0 k (q : Int) bar out) (out ++ List.replicate q bar) ∨ out.length + q > 100 := by
    intro q
    induction q with
    | zero =>
      intro out _ _
      refine .inl (Ev.step (f := fun _ => some out) (fun k => ?_) (Ev.const (by simp)))
      simp only [spec_poBars.l0]
      rw [if_neg (by omega)]
    | succ q ih =>
      intro out hq ho
      by_cases hs : out.length + (q + 1) > 100
      · exact .inr hs
      · rcases ih (out ++ [bar]) (by omega) (by rw [List.length_append, List.length_singleton]; omega) with h1 | h1
        · have c1 : ((q + 1 : Nat) : Int) > 0 := by omega
          have c2 : out.length < 17592186044416 := by omega
          rw [List.append_assoc, List.singleton_append, ← List.replicate_succ] at h1
          refine .inl (Ev.step (fun k => ?_) h1)
          simp only [spec_poBars.l0]
          rw [if_pos c1, if_pos c2, wpred' q (by omega)]
        · rw [List.length_append, List.length_singleton] at h1
          omega
  rcases h b [] hb (by simp) with h1 | h1
  · simpa [spec_poBars.f] using h1
  · simp at h1; omega
theorem poOwn_ev (rails : List Int) (hl : rails.length ≤ 8) (m : Nat) : ∀ (i : Nat) (out : List Int), i + m = rails.length → out.length ≤ i → ∃ o : List Int, Ev (fun k => spec_poFewest.l1 k rails out (rails.length : Int) (i : Int)) (o, (rails.length : Int)) := by
  induction m with
  | zero =>
    intro i out hi _
    refine ⟨out, Ev.step (f := fun _ => some _) (fun k => ?_) (Ev.now _)⟩
    simp only [spec_poFewest.l1]
    rw [if_neg (by omega)]
  | succ m ih =>
    intro i out hi ho
    have c1 : (i : Int) < (rails.length : Int) := by omega
    have c2 : out.length < 17592186044416 := by omega
    obtain ⟨o, h⟩ := ih (i + 1) (out ++ [(i : Int)]) (by omega) (by rw [List.length_append, List.length_singleton]; omega)
    refine ⟨o, Ev.step (fun k => ?_) h⟩
    simp only [spec_poFewest.l1]
    rw [if_pos c1, if_pos c2, wone' i (by omega)]
theorem fewest_ev (rails : List Int) (bar : Int) (hr : ∀ x ∈ rails, 1 ≤ x ∧ x ≤ 500) (hl : rails.length ≤ 8) (h0 : 0 < rails.length) (hbar : 1 ≤ bar ∧ bar ≤ 500) (m : Nat) : ∀ b : Nat, b + m = rails.length → 1 ≤ b → (∀ j, 1 ≤ j → j < b → ¬ fitsP rails (List.replicate j bar)) →
    ∃ (cut : List Int) (B : Nat), Ev (fun k => spec_poFewest.l0 k rails bar (b : Int)) (cut, (B : Int)) ∧ 1 ≤ B ∧ B ≤ rails.length ∧ (∀ j, 1 ≤ j → j < B → ¬ fitsP rails (List.replicate j bar)) ∧ (B < rails.length → fitsP rails (List.replicate B bar)) := by
  induction m with
  | zero =>
    intro b hb hb1 hno
    obtain ⟨o, h⟩ := poOwn_ev rails hl rails.length 0 [] (by omega) (Nat.le_refl _)
    have c1 : ¬ (b : Int) < (rails.length : Int) := by omega
    refine ⟨o, rails.length, Ev.step (fun k => ?_) h, h0, Nat.le_refl _, fun j h1 h2 => hno j h1 (by omega), fun h => absurd h (Nat.lt_irrefl _)⟩
    simp only [spec_poFewest.l0]
    rw [if_neg c1]
    rfl
  | succ m ih =>
    intro b hb hb1 hno
    have c1 : (b : Int) < (rails.length : Int) := by omega
    have hbars := poBars_ev bar b (by omega)
    obtain ⟨o1, e1, f1⟩ := poCut_ev rails hr hl h0 rails.length [] (List.replicate b bar) (by simp) (by rw [List.length_replicate]; omega) (fun v hv => by rw [List.eq_of_mem_replicate hv]; omega)
    rw [List.length_nil, List.drop_zero] at f1
    have hstep : ∀ res, Ev (fun k => if (o1.length : Int) > 0 then some (o1, (b : Int)) else spec_poFewest.l0 k rails bar ((b + 1 : Nat) : Int)) res → Ev (fun k => spec_poFewest.l0 k rails bar (b : Int)) res := fun res h => by
      refine Ev.step (f := fun k => (spec_poBars.f k (b : Int) bar).bind fun t => (spec_poCut.f k rails [] t).bind fun t2 => if (t2.length : Int) > 0 then some (t2, (b : Int)) else spec_poFewest.l0 k rails bar ((b + 1 : Nat) : Int)) (fun k => ?_) (Ev.bind hbars (Ev.bind e1 h))
      simp only [spec_poFewest.l0]
      rw [if_pos c1, wone' b (by omega)]
    by_cases hpos : o1.length > 0
    · have hpi : (o1.length : Int) > 0 := by omega
      refine ⟨o1, b, hstep _ ?_, hb1, by omega, hno, fun _ => f1.1 hpos⟩
      simp only [if_pos hpi]
      exact Ev.now _
    · have hpi : ¬ (o1.length : Int) > 0 := by omega
      obtain ⟨cut, B, h1, h2⟩ := ih (b + 1) (by omega) (by omega) (fun j hj1 hj2 => by
        by_cases e : j = b
        · subst e; exact fun h => hpos (f1.2 h)
        · exact hno j hj1 (by omega))
      refine ⟨cut, B, hstep _ ?_, h2⟩
      simp only [if_neg hpi]
      exact h1
/-- What a search over some cuts makes of the least number. -/
def Post (P : Nat → Prop) (s s' : Int) : Prop := (s' = s ∨ ∃ n, P n ∧ s' = (n : Int)) ∧ (∀ n, P n → s' ≠ 0 ∧ s' ≤ (n : Int)) ∧ (s ≠ 0 → s' ≠ 0 ∧ s' ≤ s)
theorem Post.none {P : Nat → Prop} (h : ∀ n, ¬ P n) (s : Int) : Post P s s := ⟨.inl rfl, fun n hn => absurd hn (h n), fun h => ⟨h, Int.le_refl _⟩⟩
theorem Post.seq {P Q R : Nat → Prop} {s s1 s2 : Int} (h1 : Post P s s1) (h2 : Post Q s1 s2) (hR : ∀ n, R n ↔ P n ∨ Q n) : Post R s s2 := by
  obtain ⟨a1, b1, c1⟩ := h1
  obtain ⟨a2, b2, c2⟩ := h2
  refine ⟨?_, fun n hn => ?_, fun hs => ?_⟩
  · rcases a2 with rfl | ⟨n, hn, rfl⟩
    · rcases a1 with rfl | ⟨n, hn, rfl⟩
      · exact .inl rfl
      · exact .inr ⟨n, (hR n).2 (.inl hn), rfl⟩
    · exact .inr ⟨n, (hR n).2 (.inr hn), rfl⟩
  · rcases (hR n).1 hn with hn | hn
    · have q1 := b1 n hn
      have q2 := c2 q1.1
      exact ⟨q2.1, by omega⟩
    · exact b2 n hn
  · have q1 := c1 hs
    have q2 := c2 q1.1
    exact ⟨q2.1, by omega⟩
theorem cuts_ev (rails : List Int) (bar : Int) (hr : ∀ x ∈ rails, 1 ≤ x ∧ x ≤ 500) (hl : rails.length ≤ 8) (h0 : 0 < rails.length) (hbar : 1 ≤ bar ∧ bar ≤ 500) (d : Nat) : ∀ (bg left : List Int) (st : BSt), bg.length + d = rails.length → left.length ≤ bg.length → (∀ v ∈ left, 0 ≤ v ∧ v ≤ 500) → (∀ y ∈ bg, 0 ≤ y ∧ y < (left.length : Int)) → (bg.length ≠ 0 → ((left.length : Int) - 1) ∈ bg) →
    ∃ st' : BSt, Ev (fun k => impl_firstCut.cuts k rails bar d bg left st) st' ∧ Post (reachP bar (rails.drop bg.length) left) st.2 st'.2 := by
  induction d with
  | zero =>
    intro bg left st hb hll hv hbg hlast
    rw [List.drop_eq_nil_of_le (by omega)]
    have hlm := hlast (by omega)
    cases hbc : bg with
    | nil => rw [hbc] at hb; simp at hb; omega
    | cons a l =>
      have hm := max_ev a l (by rw [hbc, List.length_cons] at hb; omega)
      have hle : ¬ maxL a l > (left.length : Int) - 1 := fun h => by
        rw [maxL_gt] at h
        rcases h with h | ⟨y, hy, h⟩
        · have := (hbg a (by rw [hbc]; exact List.mem_cons_self)).2; omega
        · have := (hbg y (by rw [hbc]; exact List.mem_cons_of_mem _ hy)).2; omega
      have hge : maxL a l > (left.length : Int) - 2 := by
        rw [maxL_gt]
        rw [hbc] at hlm
        rcases List.mem_cons.1 hlm with h | h
        · exact .inl (by omega)
        · exact .inr ⟨_, h, by omega⟩
      have hmx : maxL a l + 1 = (left.length : Int) := by omega
      have hl100 : left.length ≤ 100 := by omega
      have hpos : 0 < left.length := by have := hbg a (by rw [hbc]; exact List.mem_cons_self); omega
      refine ⟨if st.2 = 0 then (a :: l, (left.length : Int)) else if (left.length : Int) < st.2 then (a :: l, (left.length : Int)) else st, ?_, ?_⟩
      · unfold impl_firstCut.cuts impl_firstCut.step
        refine Ev.bind hm ?_
        rw [hmx, wsm (by omega)]
        exact Ev.now _
      · by_cases c1 : st.2 = 0
        · rw [if_pos c1]
          exact ⟨.inr ⟨left.length, rfl, rfl⟩, fun n hn => by have hn' : left.length = n := hn; show (left.length : Int) ≠ 0 ∧ (left.length : Int) ≤ n; omega, fun h => absurd c1 h⟩
        · rw [if_neg c1]
          by_cases c2 : (left.length : Int) < st.2
          · rw [if_pos c2]
            exact ⟨.inr ⟨left.length, rfl, rfl⟩, fun n hn => by have hn' : left.length = n := hn; show (left.length : Int) ≠ 0 ∧ (left.length : Int) ≤ n; omega, fun _ => by show (left.length : Int) ≠ 0 ∧ (left.length : Int) ≤ st.2; omega⟩
          · rw [if_neg c2]
            exact ⟨.inl rfl, fun n hn => by have hn' : left.length = n := hn; omega, fun h => ⟨h, Int.le_refl _⟩⟩
  | succ d ih =>
    intro bg left st hb hll hv hbg hlast
    have hbl : bg.length < rails.length := by omega
    have hx := hr rails[bg.length] (List.getElem_mem hbl)
    have hrd := rd_get rails bg.length hbl
    rw [List.drop_eq_getElem_cons hbl]
    generalize rails[bg.length] = x at hx hrd ⊢
    have body : ∀ (q : Nat) (s : BSt), q ≤ left.length → ∃ s' : BSt, Ev (fun k => if rd (impl_firstCut.next rails bar bg.length left q) (q : Int) ≥ 0 then impl_firstCut.cuts k rails bar d (bg ++ [(q : Int)]) (impl_firstCut.next rails bar bg.length left q) s else some s) s' ∧
        Post (fun n => x ≤ (impl_firstCut.base bar left q).getD q 0 ∧ reachP bar (rails.drop (bg.length + 1)) ((impl_firstCut.base bar left q).set q ((impl_firstCut.base bar left q).getD q 0 - x)) n) s.2 s'.2 := by
      intro q s hq
      obtain ⟨b1, b2, b3⟩ := base_len bar left q hq
      have hbv : ∀ v ∈ impl_firstCut.base bar left q, 0 ≤ v ∧ v ≤ 500 := by
        unfold impl_firstCut.base
        by_cases e : q = left.length
        · rw [if_pos e]
          intro v hvm
          rcases List.mem_append.1 hvm with h | h
          · exact hv v h
          · obtain rfl : v = bar := by simpa using h
            omega
        · rw [if_neg e]; exact hv
      have hbq := hbv _ (List.getElem_mem b1)
      rw [← getD_get b1] at hbq
      have hlst : q = left.length ∨ (impl_firstCut.base bar left q).length = left.length := by
        unfold impl_firstCut.base
        by_cases e : q = left.length
        · exact .inl e
        · rw [if_neg e]; exact .inr rfl
      have hlst2 : q = left.length → (impl_firstCut.base bar left q).length = left.length + 1 := fun e => by
        unfold impl_firstCut.base
        rw [if_pos e, List.length_append, List.length_singleton]
      have hnx : impl_firstCut.next rails bar bg.length left q = (impl_firstCut.base bar left q).set q ((impl_firstCut.base bar left q).getD q 0 - x) := by
        unfold impl_firstCut.next
        rw [hrd, rd_nat, wsm (by omega)]
      rw [hnx]
      generalize impl_firstCut.base bar left q = B at b1 b2 b3 hbv hbq hlst hlst2 ⊢
      have hrq : rd (B.set q (B.getD q 0 - x)) (q : Int) = B.getD q 0 - x := by
        rw [rd_get _ q (by rw [List.length_set]; exact b1), List.getElem_set_self]
      rw [hrq]
      by_cases c : B.getD q 0 - x ≥ 0
      · obtain ⟨s', e1, p1⟩ := ih (bg ++ [(q : Int)]) (B.set q (B.getD q 0 - x)) s (by rw [List.length_append, List.length_singleton]; omega) (by rw [List.length_append, List.length_singleton, List.length_set]; omega) (fun v h => by
            rcases List.mem_or_eq_of_mem_set h with h | rfl
            · exact hbv v h
            · omega) (fun y hy => by
            rw [List.length_set]
            rcases List.mem_append.1 hy with h | h
            · have := hbg y h; omega
            · obtain rfl : y = (q : Int) := by simpa using h
              omega) (fun _ => by
            rw [List.length_set]
            rcases hlst with e | e
            · rw [hlst2 e, ← e]
              exact List.mem_append.2 (.inr (by first | (simp; done) | (simp; omega)))
            · by_cases e2 : q = left.length
              · have := hlst2 e2; omega
              · rw [e]
                exact List.mem_append.2 (.inl (hlast (by omega))))
        rw [List.length_append, List.length_singleton] at p1
        refine ⟨s', ?_, ?_⟩
        · simp only [if_pos c]; exact e1
        · obtain ⟨a2, b2', c2⟩ := p1
          refine ⟨?_, fun n hn => b2' n hn.2, c2⟩
          rcases a2 with h | ⟨n, hn, h⟩
          · exact .inl h
          · exact .inr ⟨n, ⟨by omega, hn⟩, h⟩
      · refine ⟨s, ?_, Post.none (fun n h => by have := h.1; omega) _⟩
        simp only [if_neg c]
        exact Ev.now _
    have loop : ∀ (m q : Nat) (s : BSt), q + m = left.length + 1 → ∃ s' : BSt, Ev (fun k => bLoop (fun q st => if rd (impl_firstCut.next rails bar bg.length left q) (q : Int) ≥ 0 then impl_firstCut.cuts k rails bar d (bg ++ [(q : Int)]) (impl_firstCut.next rails bar bg.length left q) st else some st) m q s) s' ∧
        Post (fun n => ∃ p, q ≤ p ∧ p ≤ left.length ∧ x ≤ (impl_firstCut.base bar left p).getD p 0 ∧ reachP bar (rails.drop (bg.length + 1)) ((impl_firstCut.base bar left p).set p ((impl_firstCut.base bar left p).getD p 0 - x)) n) s.2 s'.2 := by
      intro m
      induction m with
      | zero => intro q s hq; exact ⟨s, Ev.now _, Post.none (fun n h => by obtain ⟨p, h1, h2, _⟩ := h; omega) _⟩
      | succ m ihm =>
        intro q s hq
        obtain ⟨s1, e1, p1⟩ := body q s (by omega)
        obtain ⟨s2, e2, p2⟩ := ihm (q + 1) s1 (by omega)
        refine ⟨s2, Ev.bind e1 e2, Post.seq p1 p2 (fun n => ⟨?_, ?_⟩)⟩
        · rintro ⟨p, h1, h2, h3⟩
          by_cases e : p = q
          · subst e; exact .inl h3
          · exact .inr ⟨p, by omega, h2, h3⟩
        · rintro (h | ⟨p, h1, h2, h3⟩)
          · exact ⟨q, Nat.le_refl _, by omega, h⟩
          · exact ⟨p, by omega, h2, h3⟩
    obtain ⟨s', e1, a1, b1, c1⟩ := loop (left.length + 1) 0 st (by omega)
    refine ⟨s', ?_, ?_, fun n hn => ?_, c1⟩
    · unfold impl_firstCut.cuts
      exact e1
    · rcases a1 with h | ⟨n, ⟨p, _, h2, h3⟩, h⟩
      · exact .inl h
      · exact .inr ⟨n, ⟨p, h2, h3⟩, h⟩
    · obtain ⟨p, h2, h3⟩ := hn
      exact b1 n ⟨p, Nat.zero_le _, h2, h3⟩
theorem bars_both (rails : List Int) (bar : Int) (hr : ∀ x ∈ rails, 1 ≤ x ∧ x ≤ 500) (hl : rails.length ≤ 8) (h0 : 0 < rails.length) (hbar : 1 ≤ bar ∧ bar ≤ 500) :
    ∃ st : BSt, Ev (fun k => impl_firstCut.f k rails bar) st ∧ ((∀ x ∈ rails, x ≤ bar) → st.2 > 0 ∧ ∃ cut : List Int, Ev (fun k => spec_poFewest.f k rails bar) (cut, st.2)) ∧ (¬ (∀ x ∈ rails, x ≤ bar) → st.2 = 0) := by
  obtain ⟨st, e, a1, b1, _⟩ := cuts_ev rails bar hr hl h0 hbar rails.length [] [] ([], 0) (by simp) (Nat.le_refl _) (by simp) (by simp) (by simp)
  rw [List.length_nil, List.drop_zero] at a1 b1
  refine ⟨st, ?_, fun hfit => ?_, fun hno => ?_⟩
  · unfold impl_firstCut.f
    simp only [show rails.length ≤ 100 by omega, if_true]
    exact e
  · obtain ⟨cut, B, eB, hB1, hB2, hB3, hB4⟩ := fewest_ev rails bar hr hl h0 hbar (rails.length - 1) 1 (by omega) (Nat.le_refl _) (fun j h1 h2 => by omega)
    have hfB : fitsP rails (List.replicate B bar) := by
      by_cases c : B < rails.length
      · exact hB4 c
      · obtain rfl : B = rails.length := by omega
        have := fits_own bar rails [] hfit
        simpa using this
    obtain ⟨n, hn, hre⟩ := fits_reach bar rails [] B (by simpa using hfB)
    simp only [List.length_nil, Nat.zero_add] at hn
    have q1 := b1 n hre
    have q2 : ∃ n, reachP bar rails [] n ∧ st.2 = (n : Int) := by
      rcases a1 with h | h
      · exact absurd h q1.1
      · exact h
    obtain ⟨n2, hr2, e2⟩ := q2
    have hf2 := (reach_fits bar rails [] n2 hr2).2
    simp only [List.length_nil, Nat.sub_zero, List.nil_append] at hf2
    have hle : (n2 : Int) ≤ (n : Int) := by omega
    have hn0 : n2 ≠ 0 := fun h => q1.1 (by rw [e2, h]; rfl)
    have hBn : ¬ n2 < B := fun h => hB3 n2 (by omega) h hf2
    have heq : st.2 = (B : Int) := by omega
    refine ⟨by omega, cut, ?_⟩
    rw [heq]
    unfold spec_poFewest.f
    exact eB
  · rcases a1 with h | ⟨n, hn, h⟩
    · exact h
    · have hf := (reach_fits bar rails [] n hn).2
      simp only [List.length_nil, Nat.sub_zero, List.nil_append] at hf
      exact absurd (fits_max bar rails _ hf (fun v hv => by rw [List.eq_of_mem_replicate hv]; exact Int.le_refl _) (fun x hx => by have := hr x hx; omega)) hno

end Go.Proofs.Ytcnancjkajbldaa.M
