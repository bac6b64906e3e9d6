/- All orders of painters: the reference and the program keep the same best one. -/
import Derived.Test.YtcnancjkajbldaaPx16
import Derived.Test.YtcnancjkajbldaaPx17
import Derived.Test.YtcnancjkajbldaaPx18
import Derived.Test.YtcnancjkajbldaaMBase
import Derived.Test.YtcnancjkajbldaaMAll
import Derived.Test.YtcnancjkajbldaaMShare
import Derived.Test.YtcnancjkajbldaaMWorks
import Derived.Test.YtcnancjkajbldaaMMax
import Derived.Test.YtcnancjkajbldaaMShares
import Derived.Test.YtcnancjkajbldaaMLeast
namespace Go.Proofs.Ytcnancjkajbldaa.M
open Go.RowKit Go.Proofs.Ytcnancjkajbldaa.P Go.Proofs.YtcnancjkajbldaaW.PrintWords Go.Proofs.Ytcnancjkajbldaa.M
set_option linter.unusedVariables false
set_option linter.unusedSimpArgs false

theorem has_l0 (l : List Int) (x : Int) (hl : l.length ≤ 1000) (d : Nat) : ∀ i : Nat, i + d = l.length → Ev (fun k => spec_l1Has.l0 k x l (l.length : Int) (i : Int)) ((l.drop i).contains x) ∧ ∃ r : Int, Ev (fun k => slices_Index_int_int.l0 k l x (l.length : Int) (i : Int)) r ∧ decide (r ≥ 0) = (l.drop i).contains x := by
  induction d with
  | zero =>
    intro i hi
    have c1 : ¬ (i : Int) < (l.length : Int) := by omega
    rw [List.drop_eq_nil_of_le (by omega)]
    refine ⟨Ev.step (f := fun _ => some _) (fun k => ?_) (Ev.now _), -1, Ev.step (f := fun _ => some _) (fun k => ?_) (Ev.now _), rfl⟩
    · simp only [spec_l1Has.l0]
      rw [if_neg c1]
      rfl
    · simp only [slices_Index_int_int.l0]
      rw [if_neg c1]
  | succ d ih =>
    intro i hi
    have hlt : i < l.length := by omega
    have c1 : (i : Int) < (l.length : Int) := by omega
    have c2 : 0 ≤ (i : Int) := by omega
    have hrd := rd_get l i hlt
    have hone := wone i (by omega)
    obtain ⟨h1, r, h2, h3⟩ := ih (i + 1) (by omega)
    rw [List.drop_eq_getElem_cons hlt, List.contains_cons]
    by_cases e : l[i] = x
    · have hx : (x == l[i]) = true := by rw [e]; exact beq_self_eq_true x
      rw [hx, Bool.true_or]
      refine ⟨Ev.step (f := fun _ => some _) (fun k => ?_) (Ev.now _), (i : Int), Ev.step (f := fun _ => some _) (fun k => ?_) (Ev.now _), decide_eq_true (by omega)⟩
      · simp only [spec_l1Has.l0]
        rw [if_pos c1, if_pos c2, if_pos c1, hrd, if_pos e]
      · simp only [slices_Index_int_int.l0]
        rw [if_pos c1, if_pos c2, if_pos c1, hrd, if_pos e.symm]
    · have hx : (x == l[i]) = false := beq_eq_false_iff_ne.mpr (fun q => e q.symm)
      rw [hx, Bool.false_or]
      refine ⟨Ev.step (fun k => ?_) h1, r, Ev.step (fun k => ?_) h2, h3⟩
      · simp only [spec_l1Has.l0]
        rw [if_pos c1, if_pos c2, if_pos c1, hrd, if_neg e, hone]
      · simp only [slices_Index_int_int.l0]
        rw [if_pos c1, if_pos c2, if_pos c1, hrd, if_neg (fun q => e q.symm), hone]
theorem has_ev (l : List Int) (x : Int) (hl : l.length ≤ 1000) : Ev (fun k => spec_l1Has.f k l x) (l.contains x) ∧ Ev (fun k => slices_Contains_int_int.f k l x) (l.contains x) := by
  obtain ⟨h1, r, h2, h3⟩ := has_l0 l x hl l.length 0 (by omega)
  rw [List.drop_zero] at h1 h3
  refine ⟨h1, ?_⟩
  unfold slices_Contains_int_int.f slices_Index_int_int.f
  refine Ev.bind h2 ?_
  rw [h3]
  exact Ev.now _
theorem Lf_top {w r : List Int} (hg : ShGood w r) : 0 ≤ Lf r w ∧ Lf r w ≤ 24000 := by
  have hr0 : ∀ x ∈ r, 0 ≤ x := fun x hx => by have := hg.rx x hx; omega
  have hw0 : ∀ x ∈ w, 0 ≤ x := fun x hx => by have := hg.wx x hx; omega
  obtain ⟨s, hs, e⟩ := Lf_mem r w hg.r0 hw0 hr0
  have hb := mxl_range 24000 (by omega) (timesL w r s) (times_bounds hg.w0 hg.wl hg.rx)
  have hv : val w r s ≤ 24000 := hb.2
  exact ⟨Lf_nonneg r w hw0 hr0, by omega⟩
/-- How the two states go together: alike and not empty, or both still at the start. -/
def Rel (b : Bool) (s i : BSt) : Prop := (s = i ∧ s.1.length ≠ 0 ∧ s.1.length ≤ 5) ∨ (b = false ∧ s = ([], 0) ∧ i = ([], 1099511627776))
theorem Rel.weak {s i : BSt} (h : Rel true s i) (b : Bool) : Rel b s i := by
  rcases h with h | ⟨h, _⟩
  · exact .inl h
  · cases h
def Inside (rs bg : List Int) : Prop := ∀ x ∈ bg, 0 ≤ x ∧ x < (rs.length : Int)
theorem own_good {w rs bg : List Int} (hg : ShGood w rs) (hi : Inside rs bg) (hl : bg.length = rs.length) : ShGood w (boOwn rs bg) := by
  have hlen : (boOwn rs bg).length = rs.length := by simp [boOwn, hl]
  refine ⟨hg.wx, hg.wl, fun x hx => ?_, by rw [hlen]; exact hg.rl, by rw [hlen]; exact hg.r0⟩
  unfold boOwn at hx
  obtain ⟨y, hy, rfl⟩ := List.mem_map.1 hx
  obtain ⟨h0, h1⟩ := hi y hy
  obtain ⟨n, rfl⟩ := Int.eq_ofNat_of_zero_le h0
  rw [rd_get rs n (by omega)]
  exact hg.rx _ (List.getElem_mem _)
theorem inside_boIn {rs bg : List Int} (hi : Inside rs bg) : boIn rs bg = true := by
  unfold boIn
  rw [List.all_eq_true]
  exact fun x hx => decide_eq_true (hi x hx)
theorem leaf {w rs bg : List Int} (hg : ShGood w rs) (hi : Inside rs bg) (hl : bg.length = rs.length) (b : Bool) (s i : BSt) (h : Rel b s i) : ∃ s' i', Ev (fun k => spec_BestOrder.step k w rs s bg) s' ∧ Ev (fun k => impl_BestOrder.step k w rs i bg) i' ∧ Rel true s' i' := by
  have hgo := own_good hg hi hl
  have hL := shLeast_all hgo
  obtain ⟨f, _, _, hI⟩ := leastTime_ev hgo
  have ht := Lf_top hgo
  have hin := inside_boIn hi
  have hb0 : bg.length ≠ 0 ∧ bg.length ≤ 5 := by have := hg.r0; have := hg.rl; omega
  have e1 : ∀ st, Ev (fun k => spec_BestOrder.step k w rs st bg) (if st.1.length = 0 then (bg, Lf (boOwn rs bg) w) else if Lf (boOwn rs bg) w < st.2 then (bg, Lf (boOwn rs bg) w) else st) := fun st => by
    unfold spec_BestOrder.step
    simp only [hin, if_true]
    exact Ev.bind hL (Ev.now _)
  have e2 : ∀ st, Ev (fun k => impl_BestOrder.step k w rs st bg) (if Lf (boOwn rs bg) w < st.2 then (bg, Lf (boOwn rs bg) w) else st) := fun st => by
    unfold impl_BestOrder.step
    simp only [hin, if_true]
    exact Ev.bind hI (Ev.now _)
  rcases h with ⟨rfl, h1⟩ | ⟨_, rfl, rfl⟩
  · refine ⟨_, _, e1 s, e2 s, .inl ?_⟩
    rw [if_neg h1.1]
    by_cases c : Lf (boOwn rs bg) w < s.2
    · rw [if_pos c]; exact ⟨rfl, hb0⟩
    · rw [if_neg c]; exact ⟨rfl, h1⟩
  · refine ⟨_, _, e1 _, e2 _, .inl ?_⟩
    have c1 : (([], 0) : BSt).1.length = 0 := rfl
    have c2 : Lf (boOwn rs bg) w < (([], 1099511627776) : BSt).2 := by show _ < (1099511627776 : Int); omega
    rw [if_pos c1, if_pos c2]
    exact ⟨rfl, hb0⟩
theorem loop_rel (Gs Gi : Nat → Nat → BSt → Option BSt) (m : Nat) : ∀ (i : Nat) (b : Bool) (s t : BSt), (∀ q, i ≤ q → q < i + m → ∀ b s t, Rel b s t → ∃ s' t', Ev (fun k => Gs k q s) s' ∧ Ev (fun k => Gi k q t) t' ∧ Rel b s' t') → Rel b s t →
    ∃ s' t', Ev (fun k => bLoop (Gs k) m i s) s' ∧ Ev (fun k => bLoop (Gi k) m i t) t' ∧ Rel b s' t' := by
  induction m with
  | zero => intro i b s t _ h; exact ⟨s, t, Ev.now _, Ev.now _, h⟩
  | succ m ih =>
    intro i b s t hG h
    obtain ⟨s1, t1, h1, h2, h3⟩ := hG i (Nat.le_refl _) (by omega) b s t h
    obtain ⟨s2, t2, h4, h5, h6⟩ := ih (i + 1) b s1 t1 (fun q h1 h2 => hG q (by omega) (by omega)) h3
    exact ⟨s2, t2, Ev.bind h1 h4, Ev.bind h2 h5, h6⟩
theorem inside_snoc {rs bg : List Int} (hi : Inside rs bg) (q : Nat) (hq : q < rs.length) : Inside rs (bg ++ [(q : Int)]) := by
  intro x hx
  rcases List.mem_append.1 hx with h | h
  · exact hi x h
  · obtain rfl : x = (q : Int) := by simpa using h
    omega
theorem ord_rel {w rs : List Int} (hg : ShGood w rs) (d : Nat) : ∀ (bg : List Int) (b : Bool) (s i : BSt), Inside rs bg → bg.length + d = rs.length → Rel b s i → ∃ s' i', Ev (fun k => spec_BestOrder.ord k w rs d bg s) s' ∧ Ev (fun k => impl_BestOrder.ord k w rs d bg i) i' ∧ Rel b s' i' := by
  induction d with
  | zero =>
    intro bg b s i hi hl h
    obtain ⟨s', i', h1, h2, h3⟩ := leaf hg hi (by omega) b s i h
    exact ⟨s', i', h1, h2, h3.weak b⟩
  | succ d ih =>
    intro bg b s i hi hl h
    unfold spec_BestOrder.ord impl_BestOrder.ord
    refine loop_rel (fun k q st => (spec_l1Has.f k bg (q : Int)).bind fun c => if c = true then some st else spec_BestOrder.ord k w rs d (bg ++ [(q : Int)]) st) (fun k q st => (slices_Contains_int_int.f k bg (q : Int)).bind fun c => if c = true then some st else impl_BestOrder.ord k w rs d (bg ++ [(q : Int)]) st) rs.length 0 b s i (fun q _ hq b s i h => ?_) h
    obtain ⟨e1, e2⟩ := has_ev bg (q : Int) (by have := hg.rl; omega)
    cases hc : bg.contains (q : Int) with
    | true =>
      rw [hc] at e1 e2
      exact ⟨s, i, Ev.bind e1 (Ev.now _), Ev.bind e2 (Ev.now _), h⟩
    | false =>
      rw [hc] at e1 e2
      obtain ⟨s', i', h1, h2, h3⟩ := ih (bg ++ [(q : Int)]) b s i (inside_snoc hi q (by omega)) (by rw [List.length_append, List.length_singleton]; omega) h
      refine ⟨s', i', Ev.bind e1 ?_, Ev.bind e2 ?_, h3⟩
      · simp only [Bool.false_eq_true, if_false]; exact h1
      · simp only [Bool.false_eq_true, if_false]; exact h2
def upTo (j : Nat) : List Int := (List.range j).map fun i : Nat => (i : Int)
theorem upTo_succ (j : Nat) : upTo j ++ [(j : Int)] = upTo (j + 1) := by simp [upTo, List.range_succ]
theorem upTo_length (j : Nat) : (upTo j).length = j := by simp [upTo]
theorem upTo_contains (j q : Nat) : (upTo j).contains (q : Int) = decide (q < j) := by
  rw [Bool.eq_iff_iff, List.contains_iff_mem, decide_eq_true_eq]
  unfold upTo
  rw [List.mem_map]
  constructor
  · rintro ⟨a, ha, e⟩
    rw [List.mem_range] at ha
    omega
  · intro h
    exact ⟨q, List.mem_range.2 h, rfl⟩
theorem upTo_inside (rs : List Int) (j : Nat) (h : j ≤ rs.length) : Inside rs (upTo j) := by
  intro x hx
  unfold upTo at hx
  obtain ⟨a, ha, rfl⟩ := List.mem_map.1 hx
  rw [List.mem_range] at ha
  omega
theorem ord_first {w rs : List Int} (hg : ShGood w rs) (d : Nat) : ∀ (j : Nat) (b : Bool) (s i : BSt), j + d = rs.length → Rel b s i → ∃ s' i', Ev (fun k => spec_BestOrder.ord k w rs d (upTo j) s) s' ∧ Ev (fun k => impl_BestOrder.ord k w rs d (upTo j) i) i' ∧ Rel true s' i' := by
  induction d with
  | zero =>
    intro j b s i hj h
    exact leaf hg (upTo_inside rs j (by omega)) (by rw [upTo_length]; omega) b s i h
  | succ d ih =>
    intro j b s i hj h
    unfold spec_BestOrder.ord impl_BestOrder.ord
    have hbody : ∀ q, q < rs.length → ∀ b s i, Rel b s i → ∃ s' t', Ev (fun k => (spec_l1Has.f k (upTo j) (q : Int)).bind fun c => if c = true then some s else spec_BestOrder.ord k w rs d (upTo j ++ [(q : Int)]) s) s' ∧ Ev (fun k => (slices_Contains_int_int.f k (upTo j) (q : Int)).bind fun c => if c = true then some i else impl_BestOrder.ord k w rs d (upTo j ++ [(q : Int)]) i) t' ∧ Rel b s' t' := by
      intro q hq b s i h
      obtain ⟨e1, e2⟩ := has_ev (upTo j) (q : Int) (by rw [upTo_length]; have := hg.rl; omega)
      cases hc : (upTo j).contains (q : Int) with
      | true =>
        rw [hc] at e1 e2
        exact ⟨s, i, Ev.bind e1 (Ev.now _), Ev.bind e2 (Ev.now _), h⟩
      | false =>
        rw [hc] at e1 e2
        obtain ⟨s', i', h1, h2, h3⟩ := ord_rel hg d (upTo j ++ [(q : Int)]) b s i (inside_snoc (upTo_inside rs j (by omega)) q hq) (by rw [List.length_append, List.length_singleton, upTo_length]; omega) h
        refine ⟨s', i', Ev.bind e1 ?_, Ev.bind e2 ?_, h3⟩
        · simp only [Bool.false_eq_true, if_false]; exact h1
        · simp only [Bool.false_eq_true, if_false]; exact h2
    have hloop : ∀ (m q : Nat) (b : Bool) (s i : BSt), q + m = rs.length → q ≤ j → Rel b s i → ∃ s' t', Ev (fun k => bLoop (fun q st => (spec_l1Has.f k (upTo j) (q : Int)).bind fun c => if c = true then some st else spec_BestOrder.ord k w rs d (upTo j ++ [(q : Int)]) st) m q s) s' ∧ Ev (fun k => bLoop (fun q st => (slices_Contains_int_int.f k (upTo j) (q : Int)).bind fun c => if c = true then some st else impl_BestOrder.ord k w rs d (upTo j ++ [(q : Int)]) st) m q i) t' ∧ Rel true s' t' := by
      intro m
      induction m with
      | zero => intro q b s i hq hqj _; omega
      | succ m ihm =>
        intro q b s i hq hqj h
        obtain ⟨e1, e2⟩ := has_ev (upTo j) (q : Int) (by rw [upTo_length]; have := hg.rl; omega)
        rw [upTo_contains] at e1 e2
        by_cases c : q < j
        · rw [decide_eq_true c] at e1 e2
          obtain ⟨s', t', h1, h2, h3⟩ := ihm (q + 1) b s i (by omega) (by omega) h
          exact ⟨s', t', Ev.bind (Ev.bind e1 (Ev.now _)) h1, Ev.bind (Ev.bind e2 (Ev.now _)) h2, h3⟩
        · obtain rfl : q = j := by omega
          rw [decide_eq_false c] at e1 e2
          obtain ⟨s1, t1, h1, h2, h3⟩ := ih (q + 1) b s i (by omega) h
          rw [← upTo_succ] at h1 h2
          obtain ⟨s', t', h4, h5, h6⟩ := loop_rel (fun k p st => (spec_l1Has.f k (upTo q) (p : Int)).bind fun c => if c = true then some st else spec_BestOrder.ord k w rs d (upTo q ++ [(p : Int)]) st) (fun k p st => (slices_Contains_int_int.f k (upTo q) (p : Int)).bind fun c => if c = true then some st else impl_BestOrder.ord k w rs d (upTo q ++ [(p : Int)]) st) m (q + 1) true s1 t1 (fun p h1 h2 b s i h => hbody p (by omega) b s i h) h3
          refine ⟨s', t', Ev.bind (Ev.bind e1 ?_) h4, Ev.bind (Ev.bind e2 ?_) h5, h6⟩
          · simp only [Bool.false_eq_true, if_false]; exact h1
          · simp only [Bool.false_eq_true, if_false]; exact h2
    exact hloop rs.length 0 b s i (by omega) (Nat.zero_le _) h
theorem order_ev {w rs : List Int} (hg : ShGood w rs) : ∃ st : BSt, st.1.length ≤ 5 ∧ Ev (fun k => spec_BestOrder.ord k w rs rs.length [] ([], 0)) st ∧ Ev (fun k => impl_BestOrder.ord k w rs rs.length [] ([], 1099511627776)) st := by
  obtain ⟨s, i, h1, h2, h3⟩ := ord_first hg rs.length 0 false ([], 0) ([], 1099511627776) (by omega) (.inr ⟨rfl, rfl, rfl⟩)
  rcases h3 with ⟨rfl, _, h5⟩ | ⟨h, _⟩
  · exact ⟨s, h5, h1, h2⟩
  · cases h

end Go.Proofs.Ytcnancjkajbldaa.M
