/- For every list WidestBoards gives the reference's answer, in memory of its own, and leaves the list alone: the plain part. -/
import Derived.Test.YtmnafjlpfndnmaaPx20
import Derived.Test.YtmnafjlpfndnmaaPx21
import Derived.Test.YtmnafjlpfndnmaaPx22
import Derived.Test.YtmnafjlpfndnmaaMBase
import Derived.Test.YtmnafjlpfndnmaaMInts
import Derived.Test.YtmnafjlpfndnmaaMAll
import Derived.Test.YtmnafjlpfndnmaaMShare
import Derived.Test.YtmnafjlpfndnmaaMMax
namespace Go.Proofs.Ytmnafjlpfndnmaa.Pure
open Go.RowKit Go.Proofs.Ytmnafjlpfndnmaa.P Go.Proofs.YtmnafjlpfndnmaaW.PrintWords Go.Proofs.Ytmnafjlpfndnmaa.M
set_option linter.unusedVariables false
set_option linter.unusedSimpArgs false

theorem law_of (w : List Int) (r0 : List Int) (r1 : Bool) (hb_w : ¬ ((w.length : Int) > 1048576)) (ho_r0 : r0.length ≤ 1000000) (hs : Ev (fun k => spec_WidestBoards.f k w) (r0, r1)) (hi : Ev (fun k => impl_WidestBoards.f k w) (r0, r1)) : Ev (fun k => laws_FnExactWidestBoards.f k w) true := by
  have ht_w := toIntS_ev w (by omega)
  have he_w := eqIntS_same w (by omega)
  obtain ⟨z_w, hm_w⟩ := markIntS_any w (1) (by omega) (by omega) (by omega)
  have hn_ : ¬ (1 + (w.length : Int) < 0) := by omega
  have he_r0 := eqIntS_same r0 (by omega)
  have hm_r0 := markIntS_ev r0 (by omega)
  have hh_r0 := heldIntS_ev r0.length (by omega)
  have hn_r0 : ¬ ((r0.length : Int) + 1 < 0) := by omega
  unfold laws_FnExactWidestBoards.f
  repeat (first
    | exact Ev.now _
    | (with_reducible refine Ev.bind hs ?_)
    | (with_reducible refine Ev.bind hi ?_)
    | (with_reducible refine Ev.bind ht_w ?_)
    | (with_reducible refine Ev.bind he_w ?_)
    | (with_reducible refine Ev.bind hm_w ?_)
    | (with_reducible refine Ev.bind he_r0 ?_)
    | (with_reducible refine Ev.bind hm_r0 ?_)
    | (with_reducible refine Ev.bind hh_r0 ?_)
    | simp only [if_true, if_false, bne_self_eq_false, Bool.false_eq_true, Option.bind_some, hb_w, hn_, hn_r0]
    | (refine Ev.step (fun k => rfl) ?_; simp only [laws_FnExactWidestBoards.j0, if_true, if_false, bne_self_eq_false, Bool.false_eq_true, Option.bind_some, hb_w, hn_, hn_r0])
    | (refine Ev.step (fun k => rfl) ?_; simp only [laws_FnExactWidestBoards.j1, if_true, if_false, bne_self_eq_false, Bool.false_eq_true, Option.bind_some, hb_w, hn_, hn_r0])
    | (refine Ev.step (fun k => rfl) ?_; simp only [laws_FnExactWidestBoards.j2, if_true, if_false, bne_self_eq_false, Bool.false_eq_true, Option.bind_some, hb_w, hn_, hn_r0])
    )

theorem most_f (a b : Int) : spec_l1Most.f a b = some (max a b) := by
  unfold spec_l1Most.f
  by_cases h : a > b
  · rw [if_pos h, show max a b = a from by omega]
  · rw [if_neg h, show max a b = b from by omega]
theorem spec_l1 (w : List Int) (m : Int) (hl : w.length ≤ 12) (d : Nat) : ∀ (i : Nat) (out : List Int), i ≤ w.length → w.length - i = d → out.length ≤ i → (x : List Int) → (hx : 1 ≤ w.length) → (Ev (fun k => slices_Max_int_int.f k w) m) →
    ∃ r : List Int, r.length ≤ 12 ∧ Ev (fun k => spec_WidestBoards.l1 k m out w (w.length : Int) (i : Int)) (r, true) ∧ Ev (fun k => impl_WidestBoards.l0 k w out w (w.length : Int) (i : Int)) (r, true) := by
  induction d with
  | zero =>
    intro i out hi hd ho _ _ _
    refine ⟨out, by omega, Ev.step (f := fun _ => some _) (fun k => ?_) (Ev.now _), Ev.step (f := fun _ => some _) (fun k => ?_) (Ev.now _)⟩
    · simp only [spec_WidestBoards.l1]
      rw [if_neg (by omega)]
    · simp only [impl_WidestBoards.l0]
      rw [if_neg (by omega)]
  | succ d ih =>
    intro i out hi hd ho x hx hm
    have hlt : i < w.length := by omega
    have hrd := rd_get w i hlt
    by_cases he : w[i] = m
    · obtain ⟨r, hr, e1, e2⟩ := ih (i + 1) (out ++ [(i : Int)]) (by omega) (by omega) (by simp; omega) x hx hm
      refine ⟨r, hr, Ev.step (fun k => ?_) e1, Ev.step (f := fun k => (slices_Max_int_int.f k w).bind fun t => if rd w (i : Int) = t then impl_WidestBoards.l0 k w (out ++ [(i : Int)]) w (w.length : Int) ((i + 1 : Nat) : Int) else impl_WidestBoards.l0 k w out w (w.length : Int) ((i + 1 : Nat) : Int)) (fun k => ?_) (Ev.bind hm ?_)⟩
      · simp only [spec_WidestBoards.l1]
        rw [if_pos (by omega), if_pos (by omega), if_pos (by omega), hrd, if_pos he, if_pos (by omega), wrap_id (by omega) (by omega)]
        rfl
      · simp only [impl_WidestBoards.l0]
        rw [if_pos (by omega), if_pos (by omega), if_pos (by omega), wrap_id (by omega) (by omega)]
        have hout : out.length < 17592186044416 := by omega
        simp only [hout, if_true]
        rfl
      · simp only [hrd, he, if_true]
        exact e2
    · obtain ⟨r, hr, e1, e2⟩ := ih (i + 1) out (by omega) (by omega) (by omega) x hx hm
      refine ⟨r, hr, Ev.step (fun k => ?_) e1, Ev.step (f := fun k => (slices_Max_int_int.f k w).bind fun t => if rd w (i : Int) = t then impl_WidestBoards.l0 k w (out ++ [(i : Int)]) w (w.length : Int) ((i + 1 : Nat) : Int) else impl_WidestBoards.l0 k w out w (w.length : Int) ((i + 1 : Nat) : Int)) (fun k => ?_) (Ev.bind hm ?_)⟩
      · simp only [spec_WidestBoards.l1]
        rw [if_pos (by omega), if_pos (by omega), if_pos (by omega), hrd, if_neg he, wrap_id (by omega) (by omega)]
        rfl
      · simp only [impl_WidestBoards.l0]
        rw [if_pos (by omega), if_pos (by omega), if_pos (by omega), wrap_id (by omega) (by omega)]
        have hout : out.length < 17592186044416 := by omega
        simp only [hout, if_true]
        rfl
      · simp only [hrd, he, if_false]
        exact e2
theorem spec_l0 (w : List Int) (hl : w.length ≤ 12) (r : List Int × Bool) (M : Int) (h : Ev (fun k => spec_WidestBoards.l1 k M [] w (w.length : Int) 0) r) (d : Nat) : ∀ (i : Nat) (m : Int), i ≤ w.length → w.length - i = d → maxL m (w.drop i) = M → Ev (fun k => spec_WidestBoards.l0 k w m w (w.length : Int) (i : Int)) r := by
  induction d with
  | zero =>
    intro i m hi hd hM
    have e : i = w.length := by omega
    subst e
    rw [List.drop_length] at hM
    refine Ev.step (fun k => ?_) h
    simp only [spec_WidestBoards.l0]
    rw [if_neg (by omega), ← hM]
    rfl
  | succ d ih =>
    intro i m hi hd hM
    have hlt : i < w.length := by omega
    have hrd := rd_get w i hlt
    rw [List.drop_eq_getElem_cons hlt] at hM
    refine Ev.step (fun k => ?_) (ih (i + 1) (max m w[i]) (by omega) (by omega) hM)
    simp only [spec_WidestBoards.l0]
    rw [if_pos (by omega), if_pos (by omega), if_pos (by omega), hrd, most_f, wrap_id (by omega) (by omega)]
    rfl
theorem FnExactWidestBoards : laws_FnExactWidestBoards.Pure := by
  intro w _ _ _
  refine Ev.rounds ?_
  by_cases hw : (w.length : Int) > 1048576
  · unfold laws_FnExactWidestBoards.f
    simp only [hw, if_true]; exact Ev.now _
  have h1 := shWidths_ev w (by omega)
  have h2 := areWidths_f w
  cases hb : widthsB w
  · rw [hb] at h1 h2
    refine law_of w [] false hw (by simp) ?_ ?_
    · unfold spec_WidestBoards.f
      exact Ev.bind h1 (Ev.now _)
    · unfold impl_WidestBoards.f
      rw [h2]; exact Ev.now _
  · have h3 := widths_bounds hb
    rw [hb] at h1 h2
    obtain ⟨x, xs, rfl⟩ : ∃ x xs, w = x :: xs := by cases w with | nil => simp at h3 | cons x xs => exact ⟨x, xs, rfl⟩
    have hx := h3.2.2 x List.mem_cons_self
    have hmax := max_ev x xs (by have := h3.2.1; simp at this; omega)
    obtain ⟨r, hr, e1, e2⟩ := spec_l1 (x :: xs) (maxL x xs) h3.2.1 _ 0 [] (Nat.zero_le _) rfl (by simp) [] h3.1 hmax
    refine law_of (x :: xs) r true hw (by omega) ?_ ?_
    · unfold spec_WidestBoards.f
      refine Ev.bind h1 ?_
      simp only [if_true]
      refine spec_l0 (x :: xs) h3.2.1 _ (maxL x xs) e1 _ 0 0 (Nat.zero_le _) rfl ?_
      show maxL (max 0 x) xs = maxL x xs
      rw [show max 0 x = x from by omega]
    · unfold impl_WidestBoards.f
      rw [h2]
      exact e2

end Go.Proofs.Ytmnafjlpfndnmaa.Pure
