/- Rows of rows: the laws' own helpers on them. -/
import Derived.Test.YtdolabkagkdfaaaPx0
import Derived.Test.YtdolabkagkdfaaaPx24
import Derived.Test.YtdolabkagkdfaaaPx6
import Derived.Test.YtdolabkagkdfaaaPx7
import Derived.Test.YtdolabkagkdfaaaMBase
import Derived.Test.YtdolabkagkdfaaaMInts
namespace Go.Proofs.Ytdolabkagkdfaaa.M
open Go.RowKit Go.Proofs.Ytdolabkagkdfaaa.P Go.Proofs.YtdolabkagkdfaaaW.PrintWords Go.Proofs.Ytdolabkagkdfaaa.M
set_option linter.unusedVariables false
set_option linter.unusedSimpArgs false

theorem rd_L1_mid (a b : List (List Int)) (r : List Int) : rd_L1 (a ++ r :: b) (a.length : Int) = r := by
  unfold rd_L1
  rw [Int.toNat_natCast, List.getD_eq_getElem?_getD, List.getElem?_append_right (Nat.le_refl _), Nat.sub_self]
  rfl
theorem wS (n : Nat) (h : n ≤ 1000000000) : wrap64 ((n : Int) + 1) = ((n + 1 : Nat) : Int) := (congrArg wrap64 (show (n : Int) + 1 = ((n + 1 : Nat) : Int) from rfl)).trans (wrap_id (by omega) (by omega))
def mkF (c n : Nat) : List Int := (List.range n).map fun i : Nat => ((c + i : Nat) : Int)
theorem mkF_length (c n : Nat) : (mkF c n).length = n := by simp [mkF]
theorem mkF_succ (c n : Nat) : mkF c (n + 1) = mkF c n ++ [((c + n : Nat) : Int)] := by simp [mkF, List.range_succ]
theorem rd_mkF (c n i : Nat) (h : i < n) : rd (mkF c n) (i : Int) = ((c + i : Nat) : Int) := by
  rw [rd_get _ _ (by rw [mkF_length]; exact h)]
  simp [mkF]
theorem markF_l0 (l : List Int) (c : Nat) (hl : l.length ≤ 1000) (hc : c ≤ 100000000) (d : Nat) : ∀ i : Nat, i ≤ l.length → l.length - i = d → Ev (fun k => laws_markIntS.l0 k (mkF c i ++ l.drop i) ((c + i : Nat) : Int) (i : Int)) (((c + l.length : Nat) : Int), mkF c l.length) := by
  induction d with
  | zero =>
    intro i hi hd
    have e : i = l.length := by omega
    subst e
    have c1 : ¬ ((l.length : Int) < ((mkF c l.length ++ l.drop l.length).length : Int)) := by
      rw [List.length_append, mkF_length, List.length_drop]; omega
    refine Ev.step (f := fun _ => some _) (fun k => ?_) (Ev.now _)
    simp only [laws_markIntS.l0]
    rw [if_neg c1, List.drop_length, List.append_nil]
  | succ d ih =>
    intro i hi hd
    have h1 : i < l.length := by omega
    have h2 : l.length - (i + 1) = d := by omega
    have c1 : (i : Int) < ((mkF c i ++ l.drop i).length : Int) := by
      rw [List.length_append, mkF_length, List.length_drop]; omega
    have c2 : (0 : Int) ≤ (i : Int) := by omega
    have b1 : c + i ≤ 1000000000 := by omega
    have b2 : i ≤ 1000000000 := by omega
    have hset : (mkF c i ++ l.drop i).set i ((c + i : Nat) : Int) = mkF c (i + 1) ++ l.drop (i + 1) := by
      rw [List.set_append, if_neg (by rw [mkF_length]; exact Nat.lt_irrefl _), mkF_length, Nat.sub_self, List.drop_eq_getElem_cons h1, List.set_cons_zero, mkF_succ, List.append_assoc]
      rfl
    refine Ev.step (fun k => ?_) (ih (i + 1) h1 h2)
    simp only [laws_markIntS.l0]
    rw [if_pos c1, if_pos c2, wS _ b1, wS _ b2, Int.toNat_natCast, hset]
    rfl
theorem markF_ev (l : List Int) (c : Nat) (hl : l.length ≤ 1000) (hc : c ≤ 100000000) : Ev (fun k => laws_markIntS.f k l (c : Int)) (((c + l.length : Nat) : Int), mkF c l.length) := by
  have := markF_l0 l c hl hc _ 0 (Nat.zero_le _) rfl
  simpa [laws_markIntS.f, mkF] using this
theorem heldF_l0 (c n : Nat) (hl : n ≤ 1000) (hc : c ≤ 100000000) (d : Nat) : ∀ i : Nat, i ≤ n → n - i = d → Ev (fun k => laws_heldIntS.l0 k (mkF c n) ((c + i : Nat) : Int) (i : Int)) ((c + n : Nat) : Int) := by
  induction d with
  | zero =>
    intro i hi hd
    have e : i = n := by omega
    subst e
    have c1 : ¬ ((i : Int) < ((mkF c i).length : Int)) := by rw [mkF_length]; omega
    refine Ev.step (f := fun _ => some _) (fun k => ?_) (Ev.now _)
    simp only [laws_heldIntS.l0]
    rw [if_neg c1]
  | succ d ih =>
    intro i hi hd
    have h1 : i < n := by omega
    have h2 : n - (i + 1) = d := by omega
    have c1 : (i : Int) < ((mkF c n).length : Int) := by rw [mkF_length]; omega
    have c2 : (0 : Int) ≤ (i : Int) := by omega
    have b1 : c + i ≤ 1000000000 := by omega
    have b2 : i ≤ 1000000000 := by omega
    refine Ev.step (fun k => ?_) (ih (i + 1) h1 h2)
    simp only [laws_heldIntS.l0]
    rw [if_pos c1, if_pos c2, if_pos (rd_mkF c n i h1), wS _ b1, wS _ b2]
    rfl
theorem heldF_ev (c n : Nat) (hl : n ≤ 1000) (hc : c ≤ 100000000) : Ev (fun k => laws_heldIntS.f k (mkF c n) (c : Int)) ((c + n : Nat) : Int) := by
  have := heldF_l0 c n hl hc _ 0 (Nat.zero_le _) rfl
  simpa [laws_heldIntS.f] using this
def mkRows : Nat → List (List Int) → Nat × List (List Int)
  | c, [] => (c, [])
  | c, r :: rs => ((mkRows (c + r.length) rs).1, mkF c r.length :: (mkRows (c + r.length) rs).2)
theorem markRows_l0 (rest : List (List Int)) : ∀ (done : List (List Int)) (c : Nat), (∀ r ∈ rest, r.length ≤ 3) → c + 3 * rest.length ≤ 100000000 → Ev (fun k => laws_markIntSS.l0 k (done ++ rest) (c : Int) done.length) (((mkRows c rest).1 : Int), done ++ (mkRows c rest).2) := by
  induction rest with
  | nil =>
    intro done c _ _
    refine Ev.step (f := fun _ => some _) (fun k => ?_) (Ev.now _)
    simp only [laws_markIntSS.l0, mkRows]
    rw [if_neg (by rw [List.append_nil]; exact Nat.lt_irrefl _)]
  | cons r rs ih =>
    intro done c h1 h2
    have hr := h1 r List.mem_cons_self
    rw [List.length_cons] at h2
    have hb : c + r.length + 3 * rs.length ≤ 100000000 := by omega
    have hc : c ≤ 100000000 := by omega
    have hr2 : r.length ≤ 1000 := by omega
    have hlt : done.length < (done ++ r :: rs).length := by rw [List.length_append, List.length_cons]; omega
    have hget : (done ++ r :: rs).getD done.length [] = r := by
      rw [List.getD_eq_getElem?_getD, List.getElem?_append_right (Nat.le_refl _), Nat.sub_self]
      rfl
    have hset : ∀ x : List Int, (done ++ r :: rs).set done.length x = (done ++ [x]) ++ rs := by
      intro x
      rw [List.set_append, if_neg (Nat.lt_irrefl _), Nat.sub_self, List.set_cons_zero, List.append_assoc]
      rfl
    have h3 := ih (done ++ [mkF c r.length]) (c + r.length) (fun x hx => h1 x (List.mem_cons_of_mem _ hx)) hb
    rw [List.length_append, List.length_singleton, List.append_assoc (done) [mkF c r.length] (mkRows _ rs).2] at h3
    refine Ev.step (f := fun k => (laws_markIntS.f k r (c : Int)).bind fun b => laws_markIntSS.l0 k ((done ++ r :: rs).set done.length b.2) b.1 (done.length + 1)) (fun k => ?_) (Ev.bind (markF_ev r c hr2 hc) ?_)
    · simp only [laws_markIntSS.l0]
      rw [if_pos hlt, hget]
    · simp only [hset]
      exact h3
theorem heldRows_l0 (rest : List (List Int)) : ∀ (done : List (List Int)) (c : Nat), (∀ r ∈ rest, r.length ≤ 3) → c + 3 * rest.length ≤ 100000000 → done.length + rest.length ≤ 100000000 → Ev (fun k => laws_heldIntSS.l0 k (done ++ (mkRows c rest).2) (c : Int) (done.length : Int)) ((mkRows c rest).1 : Int) := by
  induction rest with
  | nil =>
    intro done c _ _ _
    show Ev (fun k => laws_heldIntSS.l0 k (done ++ []) (c : Int) (done.length : Int)) (c : Int)
    rw [List.append_nil]
    refine Ev.step (f := fun _ => some _) (fun k => ?_) (Ev.now _)
    simp only [laws_heldIntSS.l0]
    rw [if_neg (Int.lt_irrefl _)]
  | cons r rs ih =>
    intro done c h1 h2 h0
    have hr := h1 r List.mem_cons_self
    rw [List.length_cons] at h2 h0
    have hb : c + r.length + 3 * rs.length ≤ 100000000 := by omega
    have hc : c ≤ 100000000 := by omega
    have hr2 : r.length ≤ 1000 := by omega
    have hd : done.length ≤ 1000000000 := by omega
    have hd2 : (done ++ [mkF c r.length]).length + rs.length ≤ 100000000 := by rw [List.length_append, List.length_singleton]; omega
    have c1 : (done.length : Int) < ((done ++ (mkF c r.length :: (mkRows (c + r.length) rs).2)).length : Int) := by rw [List.length_append, List.length_cons]; omega
    have c2 : (0 : Int) ≤ (done.length : Int) := by omega
    have c3 : ¬ (((c + r.length : Nat) : Int) < 0) := by omega
    have h3 := ih (done ++ [mkF c r.length]) (c + r.length) (fun x hx => h1 x (List.mem_cons_of_mem _ hx)) hb hd2
    rw [List.length_append, List.length_singleton, List.append_assoc (done) [mkF c r.length] (mkRows _ rs).2] at h3
    show Ev (fun k => laws_heldIntSS.l0 k (done ++ (mkF c r.length :: (mkRows (c + r.length) rs).2)) (c : Int) (done.length : Int)) ((mkRows (c + r.length) rs).1 : Int)
    refine Ev.step (f := fun k => (laws_heldIntS.f k (mkF c r.length) (c : Int)).bind fun t => (if t < 0 then (some (-1)) else (laws_heldIntSS.l0 k (done ++ (mkF c r.length :: (mkRows (c + r.length) rs).2)) t ((done.length + 1 : Nat) : Int)))) (fun k => ?_) (Ev.bind (heldF_ev c r.length hr2 hc) ?_)
    · simp only [laws_heldIntSS.l0]
      rw [if_pos c1, if_pos c2, rd_L1_mid, wS _ hd]
    · simp only [if_neg c3]
      exact h3
theorem eqRows_l0 (rest : List (List Int)) : ∀ (done : List (List Int)), (∀ r ∈ rest, r.length ≤ 3) → done.length + rest.length ≤ 100000000 → Ev (fun k => laws_eqIntSS.l0 k (done ++ rest) (done ++ rest) (done.length : Int)) true := by
  induction rest with
  | nil =>
    intro done _ _
    rw [List.append_nil]
    refine Ev.step (f := fun _ => some _) (fun k => ?_) (Ev.now _)
    simp only [laws_eqIntSS.l0]
    rw [if_neg (Int.lt_irrefl _)]
  | cons r rs ih =>
    intro done h1 h0
    have hr := h1 r List.mem_cons_self
    rw [List.length_cons] at h0
    have hr2 : r.length ≤ 4611686018427387904 := by omega
    have hd : done.length ≤ 1000000000 := by omega
    have hd2 : (done ++ [r]).length + rs.length ≤ 100000000 := by rw [List.length_append, List.length_singleton]; omega
    have c1 : (done.length : Int) < ((done ++ r :: rs).length : Int) := by rw [List.length_append, List.length_cons]; omega
    have c2 : (0 : Int) ≤ (done.length : Int) := by omega
    have h3 := ih (done ++ [r]) (fun x hx => h1 x (List.mem_cons_of_mem _ hx)) hd2
    rw [List.length_append, List.length_singleton, List.append_assoc (done) [r] rs] at h3
    refine Ev.step (f := fun k => (laws_eqIntS.f k r r).bind fun t => (if t = true then (laws_eqIntSS.l0 k (done ++ r :: rs) (done ++ r :: rs) ((done.length + 1 : Nat) : Int)) else (some false))) (fun k => ?_) (Ev.bind (eqIntS_same r hr2) ?_)
    · simp only [laws_eqIntSS.l0]
      rw [if_pos c1, if_pos c2, if_pos c1, rd_L1_mid, wS _ hd]
    · simp only [if_true]
      exact h3
theorem eqRows_ev (l : List (List Int)) (h1 : ∀ r ∈ l, r.length ≤ 3) (h2 : l.length ≤ 10000000) : Ev (fun k => laws_eqIntSS.f k l l) true := by
  unfold laws_eqIntSS.f
  simp only [if_true]
  exact eqRows_l0 l [] h1 (by simp; omega)
theorem markRows_ev (l : List (List Int)) (h1 : ∀ r ∈ l, r.length ≤ 3) (h2 : l.length ≤ 10000000) : Ev (fun k => laws_markIntSS.f k l 1) (((mkRows 1 l).1 : Int), (mkRows 1 l).2) := markRows_l0 l [] 1 h1 (by omega)
theorem heldRows_ev (l : List (List Int)) (h1 : ∀ r ∈ l, r.length ≤ 3) (h2 : l.length ≤ 10000000) : Ev (fun k => laws_heldIntSS.f k (mkRows 1 l).2 1) ((mkRows 1 l).1 : Int) := heldRows_l0 l [] 1 h1 (by omega) (by simp; omega)

end Go.Proofs.Ytdolabkagkdfaaa.M
