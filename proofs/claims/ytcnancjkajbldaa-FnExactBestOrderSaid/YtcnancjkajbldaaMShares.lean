/- All shares of some boards: the least time, the first share by which it takes no longer, how many there are. -/
import Derived.Test.YtcnancjkajbldaaPx7
import Derived.Test.YtcnancjkajbldaaMBase
import Derived.Test.YtcnancjkajbldaaMAll
import Derived.Test.YtcnancjkajbldaaMShare
import Derived.Test.YtcnancjkajbldaaMWorks
import Derived.Test.YtcnancjkajbldaaMMax
namespace Go.Proofs.Ytcnancjkajbldaa.M
open Go.RowKit Go.Proofs.Ytcnancjkajbldaa.P Go.Proofs.YtcnancjkajbldaaW.PrintWords Go.Proofs.Ytcnancjkajbldaa.M
set_option linter.unusedVariables false
set_option linter.unusedSimpArgs false

/-- All shares of b boards for p + 1 painters, in order. -/
def shL : Nat → Nat → List (List Int)
  | 0, b => [[(b : Int)]]
  | p + 1, b => (List.range (b + 1)).flatMap fun n => (shL p (b - n)).map (fun s => (n : Int) :: s)
theorem sh_shL (p : Nat) : ∀ (b : Nat) (bg : List Int), impl_leastTime.sh p b bg = (shL p b).map (fun s => bg ++ s) := by
  induction p with
  | zero => intro b bg; rfl
  | succ p ih =>
    intro b bg
    show (List.range (b + 1)).flatMap _ = ((List.range (b + 1)).flatMap _).map _
    rw [List.map_flatMap]
    congr 1
    funext n
    rw [ih, List.map_map]
    apply List.map_congr_left
    intro s _
    simp
theorem shL_mem (p b : Nat) (s : List Int) : s ∈ shL (p + 1) b ↔ ∃ n, n ≤ b ∧ ∃ s', s' ∈ shL p (b - n) ∧ s = (n : Int) :: s' := by
  simp only [shL, List.mem_flatMap, List.mem_range, List.mem_map]
  constructor
  · rintro ⟨n, hn, s', hs, rfl⟩
    exact ⟨n, by omega, s', hs, rfl⟩
  · rintro ⟨n, hn, s', hs, rfl⟩
    exact ⟨n, by omega, s', hs, rfl⟩
theorem shL_ok (p : Nat) : ∀ (b : Nat) (s : List Int), s ∈ shL p b → s.length = p + 1 ∧ (∀ n ∈ s, 0 ≤ n) ∧ sm s = (b : Int) := by
  induction p with
  | zero =>
    intro b s hs
    obtain rfl : s = [(b : Int)] := by simpa [shL] using hs
    refine ⟨rfl, fun n hn => ?_, by simp [sm]⟩
    obtain rfl : n = (b : Int) := by simpa using hn
    omega
  | succ p ih =>
    intro b s hs
    obtain ⟨n, hn, s', hs', rfl⟩ := (shL_mem p b s).1 hs
    obtain ⟨h1, h2, h3⟩ := ih _ _ hs'
    refine ⟨by simp [h1], fun x hx => ?_, by simp only [sm, h3]; omega⟩
    rcases List.mem_cons.1 hx with rfl | hx
    · omega
    · exact h2 x hx
theorem shL_len (p : Nat) : ∀ b : Nat, b ≤ 12 → (shL p b).length ≤ 13 ^ p := by
  induction p with
  | zero => intro b _; exact Nat.le_refl _
  | succ p ih =>
    intro b hb
    have h : ∀ l : List Nat, (∀ n ∈ l, n ≤ b) → (l.flatMap fun n => (shL p (b - n)).map (fun s => (n : Int) :: s)).length ≤ l.length * 13 ^ p := by
      intro l hl
      induction l with
      | nil => simp
      | cons n l ih2 =>
        rw [List.flatMap_cons, List.length_append, List.length_map, List.length_cons, Nat.succ_mul]
        have h1 := ih2 (fun m hm => hl m (List.mem_cons_of_mem _ hm))
        have h2 := ih (b - n) (by omega)
        omega
    have h3 := h (List.range (b + 1)) (fun n hn => by rw [List.mem_range] at hn; omega)
    rw [List.length_range] at h3
    show ((List.range (b + 1)).flatMap _).length ≤ _
    refine Nat.le_trans h3 ?_
    rw [Nat.pow_succ, Nat.mul_comm (13 ^ p) 13]
    exact Nat.mul_le_mul_right _ (by omega)
/-- The greatest of a list of numbers, none of them negative. -/
def mxl : List Int → Int
  | [] => -1
  | a :: l => max a (mxl l)
theorem maxL_mxl (l : List Int) : ∀ m : Int, 0 ≤ m → maxL m l = max m (mxl l) := by
  induction l with
  | nil => intro m hm; show m = max m (-1); omega
  | cons x xs ih =>
    intro m hm
    show maxL (max m x) xs = max m (max x (mxl xs))
    rw [ih _ (by omega)]
    omega
/-- How long a share takes. -/
def val (w r s : List Int) : Int := mxl (timesL w r s)
theorem val_cons (w r s : List Int) (x : Int) (n : Nat) : val w (x :: r) ((n : Int) :: s) = max (sm (w.take n) * x) (val (w.drop n) r s) := by
  unfold val timesL
  simp only [worksL, Int.toNat_natCast, List.zipWith_cons_cons, mxl]
theorem mxl_range (b : Int) (hb : 0 ≤ b) (l : List Int) (h : ∀ x ∈ l, 0 ≤ x ∧ x ≤ b) : -1 ≤ mxl l ∧ mxl l ≤ b := by
  induction l with
  | nil => simp only [mxl]; omega
  | cons x xs ih =>
    have h1 := ih (fun y hy => h y (List.mem_cons_of_mem _ hy))
    have h2 := h x List.mem_cons_self
    simp only [mxl]; omega
/-- What the program's visitor makes of a share. -/
def stp (w r : List Int) (st : Int × List Int × Int) (s : List Int) : Int × List Int × Int :=
  if val w r s < st.1 then (val w r s, s, 1) else if val w r s = st.1 then (st.1, st.2.1, wrap64 (st.2.2 + 1)) else st
structure ShGood (w r : List Int) : Prop where
  wx : ∀ x ∈ w, 1 ≤ x ∧ x ≤ 100
  wl : w.length ≤ 12
  rx : ∀ x ∈ r, 1 ≤ x ∧ x ≤ 20
  rl : r.length ≤ 5
  r0 : 0 < r.length
theorem ShGood.w0 {w r : List Int} (h : ShGood w r) : ∀ x ∈ w, 0 ≤ x ∧ x ≤ 100 := fun x hx => by have := h.wx x hx; omega
theorem step_ev {w r : List Int} (hg : ShGood w r) (st : Int × List Int × Int) (s : List Int) (hs : s ∈ shL (r.length - 1) w.length) : Ev (fun k => impl_leastTime.step k w r st s) (stp w r st s) := by
  obtain ⟨h1, h2, h3⟩ := shL_ok _ _ _ hs
  have h0 := hg.r0
  have ht := implTimes_ev w r s hg.w0 hg.wl hg.rx hg.rl h2 (by omega) (by omega)
  have hb := times_bounds (s := s) hg.w0 hg.wl hg.rx
  have hlen : (timesL w r s).length = r.length := by unfold timesL; rw [List.length_zipWith, worksL_length]; omega
  unfold impl_leastTime.step
  refine Ev.bind ht ?_
  unfold stp val
  cases e : timesL w r s with
  | nil => rw [e] at hlen; simp at hlen; omega
  | cons a l =>
    rw [e] at hb hlen
    have hrl := hg.rl
    have hm := max_ev a l (by rw [List.length_cons] at hlen; omega)
    rw [maxL_mxl l a (hb a List.mem_cons_self).1] at hm
    refine Ev.bind hm ?_
    exact Ev.now _
theorem vis_ev {w r : List Int} (hg : ShGood w r) : ∀ (l : List (List Int)) (st : Int × List Int × Int), (∀ s ∈ l, s ∈ shL (r.length - 1) w.length) → Ev (fun k => impl_leastTime.vis k w r l st) (l.foldl (stp w r) st)
  | [], st, _ => Ev.now _
  | s :: l, st, h => by
    unfold impl_leastTime.vis
    exact Ev.bind (step_ev hg st s (h s List.mem_cons_self)) (vis_ev hg l _ (fun q hq => h q (List.mem_cons_of_mem _ hq)))
theorem wrap_small {c : Int} (h0 : 0 ≤ c) (h1 : c ≤ 1000000) : wrap64 c = c := wrap_id (by omega) (by omega)
theorem fold_spec (w r : List Int) : ∀ (l : List (List Int)) (st : Int × List Int × Int), 0 ≤ st.2.2 → st.2.2 + (l.length : Int) ≤ 1000000 →
    ∃ (m : Int) (f : List Int) (c : Int), l.foldl (stp w r) st = (m, f, c) ∧ m ≤ st.1 ∧ (∀ s ∈ l, m ≤ val w r s) ∧
      ((m = st.1 ∧ f = st.2.1 ∧ c = st.2.2 + (l.countP (fun s => decide (val w r s ≤ m)) : Int)) ∨ (m < st.1 ∧ l.find? (fun s => decide (val w r s ≤ m)) = some f ∧ c = (l.countP (fun s => decide (val w r s ≤ m)) : Int)))
  | [], st, _, _ => ⟨st.1, st.2.1, st.2.2, rfl, Int.le_refl _, by simp, .inl ⟨rfl, rfl, by simp⟩⟩
  | s :: l, st, h0, h1 => by
    rw [List.length_cons] at h1
    show ∃ m f c, l.foldl (stp w r) (stp w r st s) = (m, f, c) ∧ _
    have hc : ((l.length : Nat) : Int) = (l.length : Int) := rfl
    by_cases c1 : val w r s < st.1
    · have e : stp w r st s = (val w r s, s, 1) := by unfold stp; rw [if_pos c1]
      obtain ⟨m, f, c, hf, hm, ha, ho⟩ := fold_spec w r l (val w r s, s, 1) (by show (0 : Int) ≤ 1; omega) (by show (1 : Int) + _ ≤ _; omega)
      refine ⟨m, f, c, by rw [e]; exact hf, ?_, ?_, .inr ?_⟩
      · have hm' : m ≤ val w r s := hm
        omega
      · intro q hq
        rcases List.mem_cons.1 hq with rfl | hq
        · exact hm
        · exact ha q hq
      · rcases ho with ⟨e1, e2, e3⟩ | ⟨e1, e2, e3⟩
        · have e1' : m = val w r s := e1
          have e2' : f = s := e2
          have e3' : c = 1 + (l.countP (fun s => decide (val w r s ≤ m)) : Int) := e3
          have ht : decide (val w r s ≤ m) = true := decide_eq_true (by omega)
          refine ⟨by omega, ?_, ?_⟩
          · rw [List.find?_cons, ht, e2']
          · rw [List.countP_cons, ht, e3']
            simp only [if_true]
            omega
        · have e1' : m < val w r s := e1
          have ht : decide (val w r s ≤ m) = false := decide_eq_false (by omega)
          refine ⟨by omega, ?_, ?_⟩
          · rw [List.find?_cons, ht]
            exact e2
          · rw [List.countP_cons, ht, e3]
            simp
    · by_cases c2 : val w r s = st.1
      · have e : stp w r st s = (st.1, st.2.1, st.2.2 + 1) := by
          unfold stp
          rw [if_neg c1, if_pos c2, wrap_small (by omega) (by omega)]
        obtain ⟨m, f, c, hf, hm, ha, ho⟩ := fold_spec w r l (st.1, st.2.1, st.2.2 + 1) (by show (0 : Int) ≤ st.2.2 + 1; omega) (by show st.2.2 + 1 + _ ≤ _; omega)
        have hm' : m ≤ st.1 := hm
        refine ⟨m, f, c, by rw [e]; exact hf, hm', ?_, ?_⟩
        · intro q hq
          rcases List.mem_cons.1 hq with rfl | hq
          · omega
          · exact ha q hq
        · rcases ho with ⟨e1, e2, e3⟩ | ⟨e1, e2, e3⟩
          · have e1' : m = st.1 := e1
            have e3' : c = st.2.2 + 1 + (l.countP (fun s => decide (val w r s ≤ m)) : Int) := e3
            have ht : decide (val w r s ≤ m) = true := decide_eq_true (by omega)
            refine .inl ⟨e1', e2, ?_⟩
            rw [List.countP_cons, ht, e3']
            simp only [if_true]
            omega
          · have e1' : m < st.1 := e1
            have ht : decide (val w r s ≤ m) = false := decide_eq_false (by omega)
            refine .inr ⟨e1', ?_, ?_⟩
            · rw [List.find?_cons, ht]
              exact e2
            · rw [List.countP_cons, ht, e3]
              simp
      · have e : stp w r st s = st := by
          unfold stp
          rw [if_neg c1, if_neg c2]
        obtain ⟨m, f, c, hf, hm, ha, ho⟩ := fold_spec w r l st h0 (by push_cast at h1; omega)
        have ht : decide (val w r s ≤ m) = false := decide_eq_false (by omega)
        refine ⟨m, f, c, by rw [e]; exact hf, hm, ?_, ?_⟩
        · intro q hq
          rcases List.mem_cons.1 hq with rfl | hq
          · omega
          · exact ha q hq
        · rcases ho with ⟨e1, e2, e3⟩ | ⟨e1, e2, e3⟩
          · refine .inl ⟨e1, e2, ?_⟩
            rw [List.countP_cons, ht, e3]
            simp
          · refine .inr ⟨e1, ?_, ?_⟩
            · rw [List.find?_cons, ht]
              exact e2
            · rw [List.countP_cons, ht, e3]
              simp
/-- The least of f 0 .. f n. -/
def minR (f : Nat → Int) : Nat → Int
  | 0 => f 0
  | n + 1 => min (minR f n) (f (n + 1))
theorem minR_le (f : Nat → Int) (n : Nat) : ∀ i, i ≤ n → minR f n ≤ f i := by
  induction n with
  | zero =>
    intro i hi
    obtain rfl : i = 0 := Nat.le_zero.mp hi
    exact Int.le_refl _
  | succ n ih =>
    intro i hi
    show min _ _ ≤ _
    by_cases e : i = n + 1
    · subst e; omega
    · have := ih i (by omega); omega
theorem minR_mem (f : Nat → Int) (n : Nat) : ∃ i, i ≤ n ∧ minR f n = f i := by
  induction n with
  | zero => exact ⟨0, Nat.le_refl _, rfl⟩
  | succ n ih =>
    obtain ⟨i, hi, e⟩ := ih
    show ∃ i, i ≤ n + 1 ∧ min (minR f n) (f (n + 1)) = f i
    by_cases h : minR f n ≤ f (n + 1)
    · exact ⟨i, by omega, by omega⟩
    · exact ⟨n + 1, by omega, by omega⟩
theorem minR_stop (f : Nat → Int) (n : Nat) : ∀ d, (∀ i, n < i → i ≤ n + d → minR f n ≤ f i) → minR f (n + d) = minR f n := by
  intro d
  induction d with
  | zero => intro _; rfl
  | succ d ih =>
    intro h
    show min (minR f (n + d)) (f (n + d + 1)) = _
    rw [ih (fun i h1 h2 => h i h1 (by omega))]
    have := h (n + d + 1) (by omega) (by omega)
    omega
/-- The least time, as the reference finds it. -/
def Lf : List Int → List Int → Int
  | [], _ => 0
  | [x], w => x * sm w
  | x :: y :: r, w => minR (fun n => max (x * sm (w.take n)) (Lf (y :: r) (w.drop n))) w.length
theorem Lf_le : ∀ (r w s : List Int), s ∈ shL (r.length - 1) w.length → 0 < r.length → (∀ x ∈ w, 0 ≤ x) → (∀ x ∈ r, 0 ≤ x) → Lf r w ≤ val w r s
  | [], _, _, _, h, _, _ => by simp at h
  | [x], w, s, hs, _, hw, hr => by
    obtain rfl : s = [(w.length : Int)] := by simpa [shL] using hs
    rw [val_cons, List.take_length, Int.mul_comm]
    show x * sm w ≤ _
    omega
  | x :: y :: r, w, s, hs, _, hw, hr => by
    obtain ⟨n, hn, s', hs', rfl⟩ := (shL_mem _ _ _).1 hs
    rw [val_cons]
    have h1 := minR_le (fun n => max (x * sm (w.take n)) (Lf (y :: r) (w.drop n))) w.length n hn
    have h2 := Lf_le (y :: r) (w.drop n) s' (by rw [List.length_drop]; exact hs') (by simp) (fun q hq => hw q (List.mem_of_mem_drop hq)) (fun q hq => hr q (List.mem_cons_of_mem _ hq))
    have h1' : minR (fun n => max (x * sm (w.take n)) (Lf (y :: r) (w.drop n))) w.length ≤ max (x * sm (w.take n)) (Lf (y :: r) (w.drop n)) := h1
    show minR _ _ ≤ _
    rw [Int.mul_comm (sm (w.take n)) x]
    omega
theorem Lf_mem : ∀ (r w : List Int), 0 < r.length → (∀ x ∈ w, 0 ≤ x) → (∀ x ∈ r, 0 ≤ x) → ∃ s, s ∈ shL (r.length - 1) w.length ∧ val w r s = Lf r w
  | [], _, h, _, _ => by simp at h
  | [x], w, _, hw, hr => by
    refine ⟨[(w.length : Int)], by simp [shL], ?_⟩
    rw [val_cons, List.take_length, Int.mul_comm]
    have h1 : 0 ≤ x * sm w := Int.mul_nonneg (hr x List.mem_cons_self) (sm_nonneg w hw)
    show max (x * sm w) (-1) = x * sm w
    omega
  | x :: y :: r, w, _, hw, hr => by
    obtain ⟨n, hn, e⟩ := minR_mem (fun n => max (x * sm (w.take n)) (Lf (y :: r) (w.drop n))) w.length
    obtain ⟨s', hs', e'⟩ := Lf_mem (y :: r) (w.drop n) (by simp) (fun q hq => hw q (List.mem_of_mem_drop hq)) (fun q hq => hr q (List.mem_cons_of_mem _ hq))
    refine ⟨(n : Int) :: s', (shL_mem _ _ _).2 ⟨n, hn, s', by rw [List.length_drop] at hs'; exact hs', rfl⟩, ?_⟩
    rw [val_cons, e', Int.mul_comm (sm (w.take n)) x]
    exact e.symm
/-- What the program finds. -/
theorem leastTime_ev {w r : List Int} (hg : ShGood w r) : ∃ f : List Int, (shL (r.length - 1) w.length).find? (fun s => decide (val w r s ≤ Lf r w)) = some f ∧ f.length = r.length ∧
    Ev (fun k => impl_leastTime.f k w r) (Lf r w, f, ((shL (r.length - 1) w.length).countP (fun s => decide (val w r s ≤ Lf r w)) : Int)) := by
  have hr0 : ∀ x ∈ r, 0 ≤ x := fun x hx => by have := hg.rx x hx; omega
  have hw0 : ∀ x ∈ w, 0 ≤ x := fun x hx => by have := hg.wx x hx; omega
  have hrl := hg.rl
  have hlen : (shL (r.length - 1) w.length).length ≤ 28561 := Nat.le_trans (shL_len _ _ hg.wl) (Nat.le_trans (Nat.pow_le_pow_right (by omega) (show r.length - 1 ≤ 4 by omega)) (by decide))
  obtain ⟨m, f, c, hf, hm, ha, ho⟩ := fold_spec w r (shL (r.length - 1) w.length) (1099511627776, [], 0) (Int.le_refl _) (by show (0 : Int) + _ ≤ _; omega)
  obtain ⟨s, hs, e⟩ := Lf_mem r w hg.r0 hw0 hr0
  have hb := mxl_range 24000 (by omega) (timesL w r s) (times_bounds hg.w0 hg.wl hg.rx)
  have hms := ha s hs
  have hv : val w r s ≤ 24000 := hb.2
  rcases ho with ⟨e1, _, _⟩ | ⟨e1, e2, e3⟩
  · have e1' : m = 1099511627776 := e1
    omega
  · have hmf := List.mem_of_find?_eq_some e2
    have hpf := List.find?_some e2
    have hle := Lf_le r w f hmf hg.r0 hw0 hr0
    have hpf' : val w r f ≤ m := by simpa using hpf
    obtain rfl : m = Lf r w := by omega
    refine ⟨f, e2, by have := (shL_ok _ _ _ hmf).1; have := hg.r0; omega, ?_⟩
    have hcond : 1 ≤ r.length ∧ r.length ≤ 100 ∧ w.length ≤ 1000 := ⟨hg.r0, by omega, by have := hg.wl; omega⟩
    unfold impl_leastTime.f
    simp only [hcond, and_self, if_true]
    rw [sh_shL]
    have h := vis_ev hg (shL (r.length - 1) w.length) (1099511627776, [], 0) (fun s hs => hs)
    rw [hf, e3] at h
    simpa using h

end Go.Proofs.Ytcnancjkajbldaa.M
