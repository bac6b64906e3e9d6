/- The greedy share: the reference counts what is worked, the program what is left. -/
import Derived.Test.YtmnafjlpfndnmaaPx23
import Derived.Test.YtmnafjlpfndnmaaPx24
import Derived.Test.YtmnafjlpfndnmaaMBase
import Derived.Test.YtmnafjlpfndnmaaMAll
import Derived.Test.YtmnafjlpfndnmaaMShare
import Derived.Test.YtmnafjlpfndnmaaMMax
namespace Go.Proofs.Ytmnafjlpfndnmaa.M
open Go.RowKit Go.Proofs.Ytmnafjlpfndnmaa.P Go.Proofs.YtmnafjlpfndnmaaW.PrintWords Go.Proofs.Ytmnafjlpfndnmaa.M
set_option linter.unusedVariables false
set_option linter.unusedSimpArgs false

theorem greedy_both (l : List Int) (most : Int) (hm : 1 ≤ most ∧ most ≤ 30000) (hl : l.length ≤ 12) (hx : ∀ x ∈ l, 1 ≤ x ∧ x ≤ most) (d : Nat) : ∀ (i : Nat) (out : List Int) (work left : Int), i ≤ l.length → l.length - i = d → out.length ≤ i → (out.length ≠ 0 → 0 ≤ work ∧ work ≤ most ∧ left = most - work) →
    ∃ r : List Int, r.length ≤ 12 ∧ Ev (fun k => spec_shGreedy.l0 k most out work l (l.length : Int) (i : Int)) (r, true) ∧ Ev (fun k => impl_GreedyShare.l0 k most out left l (l.length : Int) (i : Int)) (r, true) := by
  induction d with
  | zero =>
    intro i out work left hi hd ho hw
    refine ⟨out, by omega, Ev.step (f := fun _ => some _) (fun k => ?_) (Ev.now _), Ev.step (f := fun _ => some _) (fun k => ?_) (Ev.now _)⟩
    · simp only [spec_shGreedy.l0]
      rw [if_neg (by omega)]
    · simp only [impl_GreedyShare.l0]
      rw [if_neg (by omega)]
  | succ d ih =>
    intro i out work left hi hd ho hw
    have hlt : i < l.length := by omega
    have hb := hx l[i] (List.getElem_mem hlt)
    have hrd := rd_get l i hlt
    have hlen1 : ((out ++ [0] : List Int).length : Int) = (out.length : Int) + 1 := by simp
    by_cases h0 : (out.length : Int) = 0
    · obtain ⟨r, hr, e1, e2⟩ := ih (i + 1) ((out ++ [0] : List Int).set ((wrap64 (((out ++ [0] : List Int).length : Int) - 1)) : Int).toNat (wrap64 ((rd (out ++ [0] : List Int) (wrap64 (((out ++ [0] : List Int).length : Int) - 1))) + 1))) l[i] (most - l[i]) (by omega) (by omega) (by simp; omega) (fun _ => by omega)
      have w1 : wrap64 (((out ++ [0] : List Int).length : Int) - 1) = (out.length : Int) := by rw [hlen1, wrap_id (by omega) (by omega)]; omega
      refine ⟨r, hr, Ev.step (fun k => ?_) e1, Ev.step (fun k => ?_) e2⟩
      · simp only [spec_shGreedy.l0]
        rw [if_pos (by omega), if_pos (by omega), if_pos (by omega), hrd, if_neg (by omega), if_pos h0, if_pos (by omega)]
        simp only [Option.bind_some]
        rw [if_pos (by rw [w1]; omega), if_pos (by rw [w1, hlen1]; omega), wrap_id (a := 0 + l[i]) (by omega) (by omega), wrap_id (a := (i : Int) + 1) (by omega) (by omega), Int.zero_add]
        rfl
      · simp only [impl_GreedyShare.l0]
        rw [if_pos (by omega), if_pos (by omega), if_pos (by omega), hrd, if_pos h0, if_pos (by omega)]
        simp only [Option.bind_some]
        rw [if_pos (by rw [w1]; omega), if_pos (by rw [w1, hlen1]; omega), wrap_id (a := most - l[i]) (by omega) (by omega), wrap_id (a := (i : Int) + 1) (by omega) (by omega)]
        rfl
    · have hw2 := hw (by omega)
      by_cases h1 : left < l[i]
      · obtain ⟨r, hr, e1, e2⟩ := ih (i + 1) ((out ++ [0] : List Int).set ((wrap64 (((out ++ [0] : List Int).length : Int) - 1)) : Int).toNat (wrap64 ((rd (out ++ [0] : List Int) (wrap64 (((out ++ [0] : List Int).length : Int) - 1))) + 1))) l[i] (most - l[i]) (by omega) (by omega) (by simp; omega) (fun _ => by omega)
        have w1 : wrap64 (((out ++ [0] : List Int).length : Int) - 1) = (out.length : Int) := by rw [hlen1, wrap_id (by omega) (by omega)]; omega
        refine ⟨r, hr, Ev.step (fun k => ?_) e1, Ev.step (fun k => ?_) e2⟩
        · simp only [spec_shGreedy.l0]
          rw [if_pos (by omega), if_pos (by omega), if_pos (by omega), hrd, if_neg (by omega), if_neg h0, wrap_id (a := work + l[i]) (by omega) (by omega), if_pos (by omega), if_pos (by omega)]
          simp only [Option.bind_some]
          rw [if_pos (by rw [w1]; omega), if_pos (by rw [w1, hlen1]; omega), wrap_id (a := 0 + l[i]) (by omega) (by omega), wrap_id (a := (i : Int) + 1) (by omega) (by omega), Int.zero_add]
          rfl
        · simp only [impl_GreedyShare.l0]
          rw [if_pos (by omega), if_pos (by omega), if_pos (by omega), hrd, if_neg h0, if_pos h1, if_pos (by omega)]
          simp only [Option.bind_some]
          rw [if_pos (by rw [w1]; omega), if_pos (by rw [w1, hlen1]; omega), wrap_id (a := most - l[i]) (by omega) (by omega), wrap_id (a := (i : Int) + 1) (by omega) (by omega)]
          rfl
      · obtain ⟨r, hr, e1, e2⟩ := ih (i + 1) (out.set ((wrap64 ((out.length : Int) - 1)) : Int).toNat (wrap64 ((rd out (wrap64 ((out.length : Int) - 1))) + 1))) (work + l[i]) (left - l[i]) (by omega) (by omega) (by simp; omega) (fun _ => by omega)
        have w1 : wrap64 ((out.length : Int) - 1) = (out.length : Int) - 1 := wrap_id (by omega) (by omega)
        refine ⟨r, hr, Ev.step (fun k => ?_) e1, Ev.step (fun k => ?_) e2⟩
        · simp only [spec_shGreedy.l0]
          rw [if_pos (by omega), if_pos (by omega), if_pos (by omega), hrd, if_neg (by omega), if_neg h0, wrap_id (a := work + l[i]) (by omega) (by omega), if_neg (by omega), if_pos (by rw [w1]; omega), if_pos (by rw [w1]; omega), wrap_id (a := (i : Int) + 1) (by omega) (by omega)]
          rfl
        · simp only [impl_GreedyShare.l0]
          rw [if_pos (by omega), if_pos (by omega), if_pos (by omega), hrd, if_neg h0, if_neg h1, if_pos (by rw [w1]; omega), if_pos (by rw [w1]; omega), wrap_id (a := left - l[i]) (by omega) (by omega), wrap_id (a := (i : Int) + 1) (by omega) (by omega)]
          rfl
theorem greedy_no (l : List Int) (most : Int) (hl : l.length ≤ 12) (d : Nat) : ∀ (i : Nat) (out : List Int) (work : Int), i ≤ l.length → l.length - i = d → out.length ≤ i → (∃ x ∈ l.drop i, x > most) →
    Ev (fun k => spec_shGreedy.l0 k most out work l (l.length : Int) (i : Int)) ([], false) := by
  induction d with
  | zero =>
    intro i out work hi hd ho hx
    obtain ⟨x, hx, _⟩ := hx
    rw [List.drop_of_length_le (by omega)] at hx
    simp at hx
  | succ d ih =>
    intro i out work hi hd ho hx
    have hlt : i < l.length := by omega
    have hrd := rd_get l i hlt
    by_cases hg : l[i] > most
    · refine Ev.step (f := fun _ => some _) (fun k => ?_) (Ev.now _)
      simp only [spec_shGreedy.l0]
      rw [if_pos (by omega), if_pos (by omega), if_pos (by omega), hrd, if_pos hg]
    have hx2 : ∃ x ∈ l.drop (i + 1), x > most := by
      obtain ⟨x, hx, h⟩ := hx
      rw [List.drop_eq_getElem_cons hlt] at hx
      rcases List.mem_cons.1 hx with rfl | hx
      · exact absurd h hg
      · exact ⟨x, hx, h⟩
    have hlen1 : ((out ++ [0] : List Int).length : Int) = (out.length : Int) + 1 := by simp
    have w1 : wrap64 (((out ++ [0] : List Int).length : Int) - 1) = (out.length : Int) := by rw [hlen1, wrap_id (by omega) (by omega)]; omega
    by_cases h0 : (out.length : Int) = 0
    · refine Ev.step (fun k => ?_) (ih (i + 1) ((out ++ [0] : List Int).set ((wrap64 (((out ++ [0] : List Int).length : Int) - 1)) : Int).toNat (wrap64 ((rd (out ++ [0] : List Int) (wrap64 (((out ++ [0] : List Int).length : Int) - 1))) + 1))) (wrap64 (0 + l[i])) (by omega) (by omega) (by simp; omega) hx2)
      simp only [spec_shGreedy.l0]
      rw [if_pos (by omega), if_pos (by omega), if_pos (by omega), hrd, if_neg hg, if_pos h0, if_pos (by omega)]
      simp only [Option.bind_some]
      rw [if_pos (by rw [w1]; omega), if_pos (by rw [w1, hlen1]; omega), wrap_id (a := (i : Int) + 1) (by omega) (by omega)]
      rfl
    · by_cases h1 : wrap64 (work + l[i]) > most
      · refine Ev.step (fun k => ?_) (ih (i + 1) ((out ++ [0] : List Int).set ((wrap64 (((out ++ [0] : List Int).length : Int) - 1)) : Int).toNat (wrap64 ((rd (out ++ [0] : List Int) (wrap64 (((out ++ [0] : List Int).length : Int) - 1))) + 1))) (wrap64 (0 + l[i])) (by omega) (by omega) (by simp; omega) hx2)
        simp only [spec_shGreedy.l0]
        rw [if_pos (by omega), if_pos (by omega), if_pos (by omega), hrd, if_neg hg, if_neg h0, if_pos h1, if_pos (by omega)]
        simp only [Option.bind_some]
        rw [if_pos (by rw [w1]; omega), if_pos (by rw [w1, hlen1]; omega), wrap_id (a := (i : Int) + 1) (by omega) (by omega)]
        rfl
      · have w2 : wrap64 ((out.length : Int) - 1) = (out.length : Int) - 1 := wrap_id (by omega) (by omega)
        refine Ev.step (fun k => ?_) (ih (i + 1) (out.set ((wrap64 ((out.length : Int) - 1)) : Int).toNat (wrap64 ((rd out (wrap64 ((out.length : Int) - 1))) + 1))) (wrap64 (work + l[i])) (by omega) (by omega) (by simp; omega) hx2)
        simp only [spec_shGreedy.l0]
        rw [if_pos (by omega), if_pos (by omega), if_pos (by omega), hrd, if_neg hg, if_neg h0, if_neg h1, if_pos (by rw [w2]; omega), if_pos (by rw [w2]; omega), wrap_id (a := (i : Int) + 1) (by omega) (by omega)]
        rfl
theorem shMost_ev (w : List Int) (m : Int) (hw : w.length ≤ 1048576) : Ev (fun k => spec_shMost.f k w m) (widthsB w && inn 1 30000 m) := by
  unfold spec_shMost.f
  refine Ev.bind (shWidths_ev w hw) ?_
  rw [l1In_inn]
  cases h : widthsB w
  · exact Ev.now _
  · exact Ev.now _
/-- Both sides. -/
theorem greedy_ev (w : List Int) (m : Int) (hw : w.length ≤ 1048576) : ∃ (r : List Int) (ok : Bool), r.length ≤ 12 ∧ (ok = false → r = []) ∧ Ev (fun k => impl_GreedyShare.f k w m) (r, ok) ∧
    ((widthsB w && inn 1 30000 m) = true → Ev (fun k => spec_shGreedy.f k w m) (r, ok)) ∧ ((widthsB w && inn 1 30000 m) = false → ok = false) := by
  have j : Ev (fun k => impl_GreedyShare.j0 k w m true) ([], false) := by
    refine Ev.step (fun k => rfl) ?_
    simp only [impl_GreedyShare.j0, if_true]
    exact Ev.now _
  cases hb : widthsB w with
  | false =>
    refine ⟨[], false, by simp, fun _ => rfl, ?_, fun h => by simp at h, fun _ => rfl⟩
    unfold impl_GreedyShare.f
    rw [areWidths_f, hb]
    exact j
  | true =>
    cases hm : inn 1 30000 m with
    | false =>
      refine ⟨[], false, by simp, fun _ => rfl, ?_, fun h => by simp at h, fun _ => rfl⟩
      unfold impl_GreedyShare.f
      rw [areWidths_f, hb, within_f, hm]
      exact j
    | true =>
      have h1 := widths_bounds hb
      have h2 := (inn_iff _ _ _).1 hm
      obtain ⟨x, xs, rfl⟩ : ∃ x xs, w = x :: xs := by cases w with | nil => simp at h1 | cons x xs => exact ⟨x, xs, rfl⟩
      have hmax := max_ev x xs (by have := h1.2.1; simp at this; omega)
      have hgt := maxL_gt xs x m
      by_cases hg : maxL x xs > m
      · refine ⟨[], false, by simp, fun _ => rfl, ?_, fun _ => ?_, fun _ => rfl⟩
        · unfold impl_GreedyShare.f
          rw [areWidths_f, hb, within_f, hm]
          simp only [Option.bind_some, if_true]
          refine Ev.bind hmax ?_
          simp only [hg, decide_true]
          exact j
        · refine greedy_no (x :: xs) m (by omega) _ 0 [] 0 (Nat.zero_le _) rfl (by simp) ?_
          rcases hgt.1 hg with h | ⟨y, hy, h⟩
          · exact ⟨x, List.mem_cons_self, h⟩
          · exact ⟨y, List.mem_cons_of_mem _ hy, h⟩
      · have hall : ∀ y ∈ x :: xs, 1 ≤ y ∧ y ≤ m := fun y hy => by
          refine ⟨(h1.2.2 y hy).1, ?_⟩
          by_cases hy2 : y > m
          · exact absurd (hgt.2 (by rcases List.mem_cons.1 hy with rfl | h; exact .inl hy2; exact .inr ⟨y, h, hy2⟩)) hg
          · omega
        obtain ⟨r, hr, e1, e2⟩ := greedy_both (x :: xs) m h2 (by omega) hall _ 0 [] 0 0 (Nat.zero_le _) rfl (by simp) (fun h => by simp at h)
        refine ⟨r, true, hr, fun h => by simp at h, ?_, fun _ => e1, fun h => by simp at h⟩
        unfold impl_GreedyShare.f
        rw [areWidths_f, hb, within_f, hm]
        simp only [Option.bind_some, if_true]
        refine Ev.bind hmax ?_
        simp only [hg, decide_false]
        refine Ev.step (fun k => rfl) ?_
        simp only [impl_GreedyShare.j0, Bool.false_eq_true, if_false]
        exact e2

end Go.Proofs.Ytmnafjlpfndnmaa.M
