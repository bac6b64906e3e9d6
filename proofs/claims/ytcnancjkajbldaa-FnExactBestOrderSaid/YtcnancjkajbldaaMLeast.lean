/- The reference's least time. -/
import Derived.Test.YtcnancjkajbldaaPx2
import Derived.Test.YtcnancjkajbldaaPx3
import Derived.Test.YtcnancjkajbldaaMBase
import Derived.Test.YtcnancjkajbldaaMAll
import Derived.Test.YtcnancjkajbldaaMShare
import Derived.Test.YtcnancjkajbldaaMWorks
import Derived.Test.YtcnancjkajbldaaMMax
import Derived.Test.YtcnancjkajbldaaMShares
namespace Go.Proofs.Ytcnancjkajbldaa.M
open Go.RowKit Go.Proofs.Ytcnancjkajbldaa.P Go.Proofs.YtcnancjkajbldaaW.PrintWords Go.Proofs.Ytcnancjkajbldaa.M
set_option linter.unusedVariables false
set_option linter.unusedSimpArgs false

theorem most_f (a b : Int) : spec_l1Most.f a b = some (max a b) := by
  unfold spec_l1Most.f
  by_cases h : a > b
  · rw [if_pos h, show max a b = a from by omega]
  · rw [if_neg h, show max a b = b from by omega]
theorem wadd (a n : Nat) (h : a + n ≤ 1000000) : wrap64 ((a : Int) + (n : Int)) = ((a + n : Nat) : Int) := by rw [wrap_id (by omega) (by omega)]; rfl
theorem wone (n : Nat) (h : n ≤ 1000000) : wrap64 ((n : Int) + 1) = ((n + 1 : Nat) : Int) := by rw [wrap_id (by omega) (by omega)]; rfl
theorem wpred (n : Nat) (h : 0 < n) (h2 : n ≤ 1000000) : wrap64 ((n : Int) - 1) = ((n - 1 : Nat) : Int) := by rw [wrap_id (by omega) (by omega)]; omega
theorem wid24 {v : Int} (h : 0 ≤ v ∧ v ≤ 24000) : wrap64 v = v := wrap_id (by omega) (by omega)
theorem take_drop_mid (w : List Int) (a n : Nat) : (w.take (a + n)).drop a = (w.drop a).take n := by
  rw [List.drop_take, Nat.add_sub_cancel_left]
theorem own_mono (w : List Int) (hw : ∀ x ∈ w, 0 ≤ x) (x : Int) (hx : 0 ≤ x) (n m : Nat) (h : n ≤ m) : x * sm (w.take n) ≤ x * sm (w.take m) := by
  have e : w.take m = w.take n ++ (w.drop n).take (m - n) := by
    rw [← List.take_append_drop n (w.take m), List.take_take, Nat.min_eq_left h, List.drop_take]
  have h0 := sm_nonneg ((w.drop n).take (m - n)) (fun q hq => hw q (List.mem_of_mem_drop (List.mem_of_mem_take hq)))
  rw [e, sm_append]
  exact Int.mul_le_mul_of_nonneg_left (by omega) hx
theorem own_range {w : List Int} (hw : ∀ x ∈ w, 1 ≤ x ∧ x ≤ 100) (hl : w.length ≤ 12) (x : Int) (hx : 1 ≤ x ∧ x ≤ 20) (a n : Nat) : 0 ≤ x * sm ((w.drop a).take n) ∧ x * sm ((w.drop a).take n) ≤ 24000 := by
  have h1 := sm_range 100 (by omega) ((w.drop a).take n) (fun y hy => by have := hw y (List.mem_of_mem_drop (List.mem_of_mem_take hy)); omega)
  have h2 : ((w.drop a).take n).length ≤ 12 := by rw [List.length_take, List.length_drop]; omega
  have h3 : sm ((w.drop a).take n) ≤ 1200 := by omega
  refine ⟨Int.mul_nonneg (by omega) h1.1, ?_⟩
  exact Int.le_trans (Int.mul_le_mul hx.2 h3 h1.1 (by omega)) (by omega)
theorem Lf_nonneg : ∀ (r w : List Int), (∀ x ∈ w, 0 ≤ x) → (∀ x ∈ r, 0 ≤ x) → 0 ≤ Lf r w
  | [], _, _, _ => Int.le_refl _
  | [x], w, hw, hr => Int.mul_nonneg (hr x List.mem_cons_self) (sm_nonneg w hw)
  | x :: y :: r, w, hw, hr => by
    obtain ⟨i, hi, e⟩ := minR_mem (fun n => max (x * sm (w.take n)) (Lf (y :: r) (w.drop n))) w.length
    show 0 ≤ minR _ _
    rw [e]
    have h1 : 0 ≤ x * sm (w.take i) := Int.mul_nonneg (hr x List.mem_cons_self) (sm_nonneg _ (fun q hq => hw q (List.mem_of_mem_take hq)))
    show 0 ≤ max _ _
    omega
theorem shLeast_ev (w r : List Int) (hw : ∀ x ∈ w, 1 ≤ x ∧ x ≤ 100) (hl : w.length ≤ 12) (hr : ∀ x ∈ r, 1 ≤ x ∧ x ≤ 20) (hrl : r.length ≤ 5) (d : Nat) : ∀ (p a : Nat), p + d + 1 = r.length → a ≤ w.length →
    Ev (fun k => spec_shLeast.f k w r (a : Int) (p : Int)) (Lf (r.drop p) (w.drop a)) := by
  induction d with
  | zero =>
    intro p a hp ha
    have hpl : p < r.length := by omega
    have hx := hr r[p] (List.getElem_mem hpl)
    have hrd := rd_get r p hpl
    have e : r.drop p = [r[p]] := by rw [List.drop_eq_getElem_cons hpl, List.drop_eq_nil_of_le (by omega)]
    rw [e]
    have ho := own_range hw hl r[p] hx a (w.drop a).length
    rw [List.take_length] at ho
    have hsum := shSum_ev (w.drop a) (by rw [List.length_drop]; omega) (fun x h => by have := hw x (List.mem_of_mem_drop h); omega)
    have c1 : 0 ≤ (p : Int) := by omega
    have c2 : (p : Int) < (r.length : Int) := by omega
    have c3 : 0 ≤ (a : Int) := by omega
    have c4 : (a : Int) ≤ (w.length : Int) := by omega
    have hpp : r.length - 1 = p := by omega
    have hw1 : wrap64 ((r.length : Int) - 1) = (p : Int) := by rw [wpred r.length (by omega) (by omega), hpp]
    have hw2 : wrap64 (r[p] * sm (w.drop a)) = r[p] * sm (w.drop a) := wid24 ho
    refine Ev.step (f := fun k => (spec_shSum.f k (w.drop a)).bind fun t => some (wrap64 (r[p] * t))) (fun k => ?_) (Ev.bind hsum (Ev.const ?_))
    · simp only [spec_shLeast.f]
      rw [hw1, if_pos rfl, if_pos c1, if_pos c2, if_pos c3, if_pos c4, hrd, Int.toNat_natCast]
    · rw [hw2]
      rfl
  | succ d ih =>
    intro p a hp ha
    have hpl : p < r.length := by omega
    have hpl2 : p + 1 < r.length := by omega
    have hx := hr r[p] (List.getElem_mem hpl)
    have hrd := rd_get r p hpl
    have e : r.drop p = r[p] :: r[p + 1] :: r.drop (p + 2) := by rw [List.drop_eq_getElem_cons hpl, List.drop_eq_getElem_cons hpl2]
    have e2 : r[p + 1] :: r.drop (p + 2) = r.drop (p + 1) := by rw [List.drop_eq_getElem_cons hpl2]
    rw [e]
    have hb : (w.drop a).length = w.length - a := List.length_drop
    have hrest := fun n (hn : a + n ≤ w.length) => ih (p + 1) (a + n) (by omega) hn
    have hrw : ∀ x ∈ w.drop a, 0 ≤ x := fun x h => by have := hw x (List.mem_of_mem_drop h); omega
    have hr0 : ∀ x ∈ r.drop (p + 1), 0 ≤ x := fun x h => by have := hr x (List.mem_of_mem_drop h); omega
    have hownm := own_mono (w.drop a) hrw r[p] (by omega)
    have hownr := own_range hw hl r[p] hx a
    have hLf := fun n => Lf_nonneg (r.drop (p + 1)) ((w.drop a).drop n) (fun q hq => hrw q (List.mem_of_mem_drop hq)) hr0
    generalize r[p] = x at hx hrd hownm hownr ⊢
    have hdef : Lf (x :: r[p + 1] :: r.drop (p + 2)) (w.drop a) = minR (fun n => max (x * sm ((w.drop a).take n)) (Lf (r.drop (p + 1)) ((w.drop a).drop n))) (w.length - a) := by
      rw [← hb, ← e2]
      rfl
    rw [hdef]
    obtain ⟨f, hf⟩ : ∃ f : Nat → Int, f = fun n => max (x * sm ((w.drop a).take n)) (Lf (r.drop (p + 1)) ((w.drop a).drop n)) := ⟨_, rfl⟩
    rw [← hf]
    have hfo : ∀ n, x * sm ((w.drop a).take n) ≤ f n := fun n => by rw [hf]; show _ ≤ max _ _; omega
    have hf0 : ∀ n, 0 ≤ f n := fun n => by have h1 := hfo n; have h2 := (hownr n).1; omega
    have hm0 : ∀ n, 0 ≤ minR f n := fun n => by obtain ⟨i, _, e⟩ := minR_mem f n; rw [e]; exact hf0 i
    have loop : ∀ (q n : Nat) (best : Int), a + n + q = w.length + 1 → ((n = 0 ∧ best = -1) ∨ (0 < n ∧ best = minR f (n - 1))) → Ev (fun k => spec_shLeast.l0 k w r (a : Int) (p : Int) best (n : Int)) (minR f (w.length - a)) := by
      intro q
      induction q with
      | zero =>
        intro n best hq hbst
        rcases hbst with ⟨h1, _⟩ | ⟨h1, h2⟩
        · omega
        have c1 : ¬ ((a + n : Nat) : Int) ≤ (w.length : Int) := by omega
        have cn : w.length - a = n - 1 := by omega
        have hw3 : wrap64 ((a : Int) + (n : Int)) = ((a + n : Nat) : Int) := wadd a n (by omega)
        refine Ev.step (f := fun _ => some best) (fun k => ?_) (Ev.const ?_)
        · simp only [spec_shLeast.l0]
          rw [hw3, if_neg c1]
        · rw [h2, cn]
      | succ q ihq =>
        intro n best hq hbst
        have ho := hownr n
        have c1 : ((a + n : Nat) : Int) ≤ (w.length : Int) := by omega
        have c2 : 0 ≤ (p : Int) := by omega
        have c3 : (p : Int) < (r.length : Int) := by omega
        have c4 : 0 ≤ (a : Int) := by omega
        have c5 : (a : Int) ≤ ((a + n : Nat) : Int) := by omega
        have hle : a + n ≤ 1000000 := by omega
        have hn1 : n ≤ 1000000 := by omega
        have hp1 : p ≤ 1000000 := by omega
        have hsum := shSum_ev ((w.drop a).take n) (by rw [List.length_take]; omega) (fun y h => by have := hw y (List.mem_of_mem_drop (List.mem_of_mem_take h)); omega)
        have hr1 := hrest n (by omega)
        have hdd : w.drop (a + n) = (w.drop a).drop n := by rw [List.drop_drop]
        rw [hdd] at hr1
        have hfn : max (x * sm ((w.drop a).take n)) (Lf (r.drop (p + 1)) ((w.drop a).drop n)) = f n := by rw [hf]
        -- the part behind the test
        have go : ∀ (h : ((n = 0 ∧ best = -1) ∨ (0 < n ∧ best = minR f (n - 1)))), Ev (fun k => spec_shLeast.j1 k w r (a : Int) (p : Int) best (n : Int) (x * sm ((w.drop a).take n)) false) (minR f (w.length - a)) := by
          intro h
          have hi : Ev (fun k => spec_shLeast.l0 k w r (a : Int) (p : Int) (minR f n) ((n + 1 : Nat) : Int)) (minR f (w.length - a)) := ihq (n + 1) (minR f n) (by omega) (.inr ⟨by omega, rfl⟩)
          refine Ev.step (f := fun k => (spec_shLeast.f k w r ((a + n : Nat) : Int) ((p + 1 : Nat) : Int)).bind fun t => spec_shLeast.l0 k w r (a : Int) (p : Int) (if best < 0 then max (x * sm ((w.drop a).take n)) t else if max (x * sm ((w.drop a).take n)) t < best then max (x * sm ((w.drop a).take n)) t else best) ((n + 1 : Nat) : Int)) (fun k => ?_) (Ev.bind hr1 ?_)
          · simp only [spec_shLeast.j1]
            rw [if_neg (by simp), wadd a n hle, wone p hp1, wone n hn1]
            congr 1
            funext t
            rw [most_f, Option.bind_some]
            by_cases q1 : best < 0
            · rw [if_pos q1, if_pos q1]
            · rw [if_neg q1, if_neg q1]
              by_cases q2 : max (x * sm ((w.drop a).take n)) t < best
              · rw [if_pos q2, if_pos q2]
              · rw [if_neg q2, if_neg q2]
          · rw [hfn]
            have hbest : (if best < 0 then f n else if f n < best then f n else best) = minR f n := by
              rcases h with ⟨h1, h2⟩ | ⟨h1, h2⟩
              · subst h1
                rw [if_pos (by omega)]
                rfl
              · have h3 := hm0 (n - 1)
                obtain ⟨n', rfl⟩ : ∃ n', n = n' + 1 := ⟨n - 1, by omega⟩
                rw [Nat.add_sub_cancel] at h2 h3
                rw [if_neg (by omega)]
                show _ = min (minR f n') (f (n' + 1))
                by_cases c : f (n' + 1) < best
                · rw [if_pos c]; omega
                · rw [if_neg c]; omega
            rw [hbest]
            exact hi
        rcases hbst with ⟨h1, h2⟩ | ⟨h1, h2⟩
        · have hneg : ¬ best ≥ 0 := by omega
          refine Ev.step (f := fun k => (spec_shSum.f k ((w.drop a).take n)).bind fun t => spec_shLeast.j1 k w r (a : Int) (p : Int) best (n : Int) (wrap64 (x * t)) false) (fun k => ?_) (Ev.bind hsum ?_)
          · simp only [spec_shLeast.l0]
            rw [wadd a n hle, if_pos c1, if_pos c2, if_pos c3, if_pos c4, if_pos c5, hrd, Int.toNat_natCast, Int.toNat_natCast, take_drop_mid]
            congr 1
            funext t
            rw [if_neg hneg]
          · rw [wid24 ho]
            exact go (.inl ⟨h1, h2⟩)
        · have hb0 := hm0 (n - 1)
          have hpos : best ≥ 0 := by omega
          refine Ev.step (f := fun k => (spec_shSum.f k ((w.drop a).take n)).bind fun t => spec_shLeast.j1 k w r (a : Int) (p : Int) best (n : Int) (wrap64 (x * t)) (decide (wrap64 (x * t) ≥ best))) (fun k => ?_) (Ev.bind hsum ?_)
          · simp only [spec_shLeast.l0]
            rw [wadd a n hle, if_pos c1, if_pos c2, if_pos c3, if_pos c4, if_pos c5, hrd, Int.toNat_natCast, Int.toNat_natCast, take_drop_mid]
            congr 1
            funext t
            rw [if_pos hpos]
          · rw [wid24 ho]
            by_cases c : x * sm ((w.drop a).take n) ≥ best
            · rw [decide_eq_true c]
              refine Ev.step (f := fun _ => some best) (fun k => ?_) (Ev.const ?_)
              · simp only [spec_shLeast.j1]
                rw [if_pos True.intro]
              · congr 1
                have hst := minR_stop f (n - 1) (w.length - a - (n - 1)) (fun i h3 h4 => by
                  have h5 := hownm n i (by omega)
                  have h6 := hfo i
                  omega)
                rw [show n - 1 + (w.length - a - (n - 1)) = w.length - a from by omega] at hst
                rw [hst, h2]
            · rw [decide_eq_false c]
              exact go (.inr ⟨h1, h2⟩)
    have c0 : ¬ (p : Int) = ((r.length - 1 : Nat) : Int) := by omega
    refine Ev.step (fun k => ?_) (loop (w.length + 1 - a) 0 (-1) (by omega) (.inl ⟨rfl, rfl⟩))
    simp only [spec_shLeast.f]
    rw [wpred r.length (by omega) (by omega), if_neg c0]
    rfl
theorem shLeast_all {w r : List Int} (hg : ShGood w r) : Ev (fun k => spec_shLeast.f k w r 0 0) (Lf r w) := by
  have h := shLeast_ev w r hg.wx hg.wl hg.rx hg.rl (r.length - 1) 0 0 (by have := hg.r0; omega) (Nat.zero_le _)
  simpa using h

end Go.Proofs.Ytcnancjkajbldaa.M
