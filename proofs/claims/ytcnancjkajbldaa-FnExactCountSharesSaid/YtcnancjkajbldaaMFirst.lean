/- The reference's first share that takes no longer than a time, and how many such shares there are. -/
import Derived.Test.YtcnancjkajbldaaPx10
import Derived.Test.YtcnancjkajbldaaPx2
import Derived.Test.YtcnancjkajbldaaPx3
import Derived.Test.YtcnancjkajbldaaMBase
import Derived.Test.YtcnancjkajbldaaMAll
import Derived.Test.YtcnancjkajbldaaMShare
import Derived.Test.YtcnancjkajbldaaMWorks
import Derived.Test.YtcnancjkajbldaaMMax
import Derived.Test.YtcnancjkajbldaaMShares
import Derived.Test.YtcnancjkajbldaaMLeast
namespace Go.Proofs.Ytcnancjkajbldaa.M
open Go.RowKit Go.Proofs.Ytcnancjkajbldaa.P Go.Proofs.YtcnancjkajbldaaW.PrintWords Go.Proofs.Ytcnancjkajbldaa.M
set_option linter.unusedVariables false
set_option linter.unusedSimpArgs false

theorem find_range {β : Type} (g : Nat → Option β) (s : β) (d : Nat) : ∀ i, (List.range' i d).findSome? g = some s → ∃ n, i ≤ n ∧ n < i + d ∧ g n = some s ∧ ∀ j, i ≤ j → j < n → g j = none := by
  induction d with
  | zero => intro i h; simp at h
  | succ d ih =>
    intro i h
    rw [List.range'_succ, List.findSome?_cons] at h
    cases e : g i with
    | some x =>
      rw [e] at h
      have hx : x = s := by simpa using h
      exact ⟨i, Nat.le_refl _, by omega, by rw [e, hx], fun j h1 h2 => by omega⟩
    | none =>
      rw [e] at h
      obtain ⟨n, h1, h2, h3, h4⟩ := ih (i + 1) h
      refine ⟨n, by omega, by omega, h3, fun j h5 h6 => ?_⟩
      by_cases ej : j = i
      · rw [ej]; exact e
      · exact h4 j (by omega) h6
theorem find_cons (x y : Int) (r w : List Int) (T : Int) (s : List Int) (h : (shL (r.length + 1) w.length).find? (fun s => decide (val w (x :: y :: r) s ≤ T)) = some s) (hw : ∀ x ∈ w, 0 ≤ x) (hr : ∀ q ∈ (x :: y :: r), 0 ≤ q) :
    ∃ n s', n ≤ w.length ∧ s = (n : Int) :: s' ∧ x * sm (w.take n) ≤ T ∧ Lf (y :: r) (w.drop n) ≤ T ∧ (shL r.length (w.drop n).length).find? (fun s => decide (val (w.drop n) (y :: r) s ≤ T)) = some s' ∧
      ∀ j, j < n → x * sm (w.take j) > T ∨ Lf (y :: r) (w.drop j) > T := by
  have hy : ∀ q ∈ (y :: r), 0 ≤ q := fun q hq => hr q (List.mem_cons_of_mem _ hq)
  simp only [shL] at h
  rw [List.find?_flatMap, List.range_eq_range'] at h
  obtain ⟨n, _, hn, h1, h2⟩ := find_range _ s _ 0 h
  rw [List.find?_map] at h1
  obtain ⟨s', h3, rfl⟩ := Option.map_eq_some_iff.mp h1
  have hp := List.find?_some h3
  simp only [Function.comp_apply, decide_eq_true_eq] at hp
  rw [val_cons, Int.mul_comm] at hp
  have hdl : (w.drop n).length = w.length - n := List.length_drop
  have hown : x * sm (w.take n) ≤ T := by omega
  have hm := List.mem_of_find?_eq_some h3
  have hle := Lf_le (y :: r) (w.drop n) s' (by rw [hdl]; exact hm) (by simp) (fun q hq => hw q (List.mem_of_mem_drop hq)) hy
  refine ⟨n, s', by omega, rfl, hown, by omega, ?_, fun j hj => ?_⟩
  · rw [hdl, ← h3]
    congr 1
    funext q
    simp only [Function.comp_apply]
    rw [val_cons, Int.mul_comm]
    congr 1
    rw [eq_iff_iff]
    omega
  · have h4 := h2 j (Nat.zero_le _) hj
    rw [List.find?_map] at h4
    have h5 : (shL r.length (w.length - j)).find? ((fun s => decide (val w (x :: y :: r) s ≤ T)) ∘ fun s => (j : Int) :: s) = none := by
      cases e : (shL r.length (w.length - j)).find? ((fun s => decide (val w (x :: y :: r) s ≤ T)) ∘ fun s => (j : Int) :: s) with
      | none => rfl
      | some q => rw [e] at h4; simp at h4
    rw [List.find?_eq_none] at h5
    obtain ⟨q, hq, e⟩ := Lf_mem (y :: r) (w.drop j) (by simp) (fun z hz => hw z (List.mem_of_mem_drop hz)) hy
    have hjl : (w.drop j).length = w.length - j := List.length_drop
    rw [hjl] at hq
    have h6 := h5 q hq
    simp only [Function.comp_apply, decide_eq_true_eq] at h6
    rw [val_cons, e, Int.mul_comm] at h6
    omega
theorem shFirst_ev (w r : List Int) (hw : ∀ x ∈ w, 1 ≤ x ∧ x ≤ 100) (hl : w.length ≤ 12) (hr : ∀ x ∈ r, 1 ≤ x ∧ x ≤ 20) (hrl : r.length ≤ 5) (T : Int) (d : Nat) : ∀ (p a : Nat) (out s : List Int), p + d + 1 = r.length → a ≤ w.length → out.length ≤ p →
    (shL d (w.drop a).length).find? (fun s => decide (val (w.drop a) (r.drop p) s ≤ T)) = some s → Ev (fun k => spec_shFirst.l0 k w r T out (a : Int) r (r.length : Int) (p : Int)) (out ++ s) := by
  induction d with
  | zero =>
    intro p a out s hp ha ho hf
    have hm := List.mem_of_find?_eq_some hf
    have hdl : (w.drop a).length = w.length - a := List.length_drop
    obtain rfl : s = [((w.length - a : Nat) : Int)] := by rw [hdl] at hm; simpa [shL] using hm
    have c1 : (p : Int) < (r.length : Int) := by omega
    have c2 : 0 ≤ (p : Int) := by omega
    have c3 : (p : Int) = ((r.length - 1 : Nat) : Int) := by omega
    have c4 : out.length < 17592186044416 := by omega
    have hsub : wrap64 ((w.length : Int) - (a : Int)) = ((w.length - a : Nat) : Int) := by rw [wrap_id (by omega) (by omega)]; omega
    refine Ev.step (f := fun _ => some _) (fun k => ?_) (Ev.now _)
    simp only [spec_shFirst.l0]
    rw [if_pos c1, if_pos c2, if_pos c1, wpred r.length (by omega) (by omega), if_pos c3, if_pos c4, hsub]
  | succ d ih =>
    intro p a out s hp ha ho hf
    have hpl : p < r.length := by omega
    have hpl2 : p + 1 < r.length := by omega
    have hx := hr r[p] (List.getElem_mem hpl)
    have hrd := rd_get r p hpl
    have e : r.drop p = r[p] :: r[p + 1] :: r.drop (p + 2) := by rw [List.drop_eq_getElem_cons hpl, List.drop_eq_getElem_cons hpl2]
    have e2 : r[p + 1] :: r.drop (p + 2) = r.drop (p + 1) := by rw [List.drop_eq_getElem_cons hpl2]
    have hdl2 : (r.drop (p + 2)).length = d := by rw [List.length_drop]; omega
    have hwa : ∀ x ∈ w.drop a, 0 ≤ x := fun x h => by have := hw x (List.mem_of_mem_drop h); omega
    have hr0 : ∀ q ∈ r.drop p, 0 ≤ q := fun q h => by have := hr q (List.mem_of_mem_drop h); omega
    rw [e] at hf hr0
    rw [← hdl2] at hf
    obtain ⟨n, s', hn, rfl, h1, h2, h3, h4⟩ := find_cons _ _ _ _ T s hf hwa hr0
    rw [e2] at h2 h3 h4
    rw [hdl2] at h3
    have hb : (w.drop a).length = w.length - a := List.length_drop
    have hdd : ∀ n, (w.drop a).drop n = w.drop (a + n) := fun n => by rw [List.drop_drop]
    rw [hdd] at h3
    have hnext := ih (p + 1) (a + n) (out ++ [(n : Int)]) s' (by omega) (by omega) (by rw [List.length_append, List.length_singleton]; omega) h3
    have hLe := fun n (hn : a + n ≤ w.length) => shLeast_ev w r hw hl hr hrl d (p + 1) (a + n) (by omega) hn
    have hownr := own_range hw hl r[p] hx a
    have c1 : (p : Int) < (r.length : Int) := by omega
    have c2 : 0 ≤ (p : Int) := by omega
    have c3 : ¬ (p : Int) = ((r.length - 1 : Nat) : Int) := by omega
    have c4 : out.length < 17592186044416 := by omega
    have c5 : 0 ≤ (a : Int) := by omega
    have hp1 : p ≤ 1000000 := by omega
    have loop : ∀ (q i : Nat), i + q = n → Ev (fun k => spec_shFirst.l1 k w r T out (a : Int) (p : Int) r[p] (i : Int) r (r.length : Int) (p : Int)) (out ++ (n : Int) :: s') := by
      intro q
      induction q with
      | zero =>
        intro i hi
        obtain rfl : i = n := by omega
        have c6 : (a : Int) ≤ ((a + i : Nat) : Int) := by omega
        have c7 : ((a + i : Nat) : Int) ≤ (w.length : Int) := by omega
        have hle : a + i ≤ 1000000 := by omega
        have hn1 : i ≤ 1000000 := by omega
        have hsum := shSum_ev ((w.drop a).take i) (by rw [List.length_take]; omega) (fun y h => by have := hw y (List.mem_of_mem_drop (List.mem_of_mem_take h)); omega)
        have hL := hLe i (by omega)
        rw [hdd] at h2
        have q1 : ¬ r[p] * sm ((w.drop a).take i) > T := by omega
        have q2 : ¬ Lf (r.drop (p + 1)) (w.drop (a + i)) > T := by omega
        refine Ev.step (f := fun k => (spec_shSum.f k ((w.drop a).take i)).bind fun t => if wrap64 (r[p] * t) > T then spec_shFirst.l1 k w r T out (a : Int) (p : Int) r[p] ((i + 1 : Nat) : Int) r (r.length : Int) (p : Int) else (spec_shLeast.f k w r ((a + i : Nat) : Int) ((p + 1 : Nat) : Int)).bind fun t2 => if t2 > T then spec_shFirst.l1 k w r T out (a : Int) (p : Int) r[p] ((i + 1 : Nat) : Int) r (r.length : Int) (p : Int) else spec_shFirst.l0 k w r T (out ++ [(i : Int)]) ((a + i : Nat) : Int) r (r.length : Int) ((p + 1 : Nat) : Int)) (fun k => ?_) (Ev.bind hsum ?_)
        · simp only [spec_shFirst.l1]
          rw [wadd a i hle, wone i hn1, wone p hp1, if_pos c5, if_pos c6, if_pos c7, Int.toNat_natCast, Int.toNat_natCast, take_drop_mid, if_pos c4]
        · rw [wid24 (hownr i)]
          simp only [if_neg q1]
          refine Ev.bind hL ?_
          simp only [if_neg q2]
          rw [List.append_assoc] at hnext
          exact hnext
      | succ q ihq =>
        intro i hi
        have hlt : i < n := by omega
        have c6 : (a : Int) ≤ ((a + i : Nat) : Int) := by omega
        have c7 : ((a + i : Nat) : Int) ≤ (w.length : Int) := by omega
        have hle : a + i ≤ 1000000 := by omega
        have hn1 : i ≤ 1000000 := by omega
        have hsum := shSum_ev ((w.drop a).take i) (by rw [List.length_take]; omega) (fun y h => by have := hw y (List.mem_of_mem_drop (List.mem_of_mem_take h)); omega)
        have hL := hLe i (by omega)
        have h5 := h4 i hlt
        rw [hdd] at h5
        have hgo := ihq (i + 1) (by omega)
        refine Ev.step (f := fun k => (spec_shSum.f k ((w.drop a).take i)).bind fun t => if wrap64 (r[p] * t) > T then spec_shFirst.l1 k w r T out (a : Int) (p : Int) r[p] ((i + 1 : Nat) : Int) r (r.length : Int) (p : Int) else (spec_shLeast.f k w r ((a + i : Nat) : Int) ((p + 1 : Nat) : Int)).bind fun t2 => if t2 > T then spec_shFirst.l1 k w r T out (a : Int) (p : Int) r[p] ((i + 1 : Nat) : Int) r (r.length : Int) (p : Int) else spec_shFirst.l0 k w r T (out ++ [(i : Int)]) ((a + i : Nat) : Int) r (r.length : Int) ((p + 1 : Nat) : Int)) (fun k => ?_) (Ev.bind hsum ?_)
        · simp only [spec_shFirst.l1]
          rw [wadd a i hle, wone i hn1, wone p hp1, if_pos c5, if_pos c6, if_pos c7, Int.toNat_natCast, Int.toNat_natCast, take_drop_mid, if_pos c4]
        · rw [wid24 (hownr i)]
          by_cases q1 : r[p] * sm ((w.drop a).take i) > T
          · simp only [if_pos q1]
            exact hgo
          · have q2 : Lf (r.drop (p + 1)) (w.drop (a + i)) > T := by omega
            simp only [if_neg q1]
            refine Ev.bind hL ?_
            simp only [if_pos q2]
            exact hgo
    refine Ev.step (fun k => ?_) (loop n 0 (by omega))
    simp only [spec_shFirst.l0]
    rw [if_pos c1, if_pos c2, if_pos c1, wpred r.length (by omega) (by omega), if_neg c3, hrd]
    rfl
theorem shFirst_all {w r : List Int} (hg : ShGood w r) (T : Int) (f : List Int) (h : (shL (r.length - 1) w.length).find? (fun s => decide (val w r s ≤ T)) = some f) : Ev (fun k => spec_shFirst.f k w r T) f := by
  have h1 := shFirst_ev w r hg.wx hg.wl hg.rx hg.rl T (r.length - 1) 0 0 [] f (by have := hg.r0; omega) (Nat.zero_le _) (Nat.le_refl _) (by simpa using h)
  simpa [spec_shFirst.f] using h1

end Go.Proofs.Ytcnancjkajbldaa.M
